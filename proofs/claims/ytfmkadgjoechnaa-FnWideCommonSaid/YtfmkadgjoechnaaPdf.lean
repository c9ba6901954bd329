/- Walks and plain mathematics, packed by a program of this session: declarations that the rows reach. -/
import Derived.Test.YtfmkadgjoechnaaPde
set_option linter.unusedVariables false
set_option linter.unusedSimpArgs false
namespace Go.Proofs.Ytfmkadgjoechnaa.W
open Go Go.RowKit Go.Proofs.Ytfmkadgjoechnaa.Fw
attribute [local irreducible] RunK LW AW DV OE Ct
theorem co46 : callOk Try.prog 46 = true := by kernel_rfl
theorem co49 : callOk Try.prog 49 = true := by kernel_rfl
theorem co51 : callOk Try.prog 51 = true := by kernel_rfl
theorem co54 : callOk Try.prog 54 = true := by kernel_rfl
theorem co63 : callOk Try.prog 63 = true := by kernel_rfl
theorem co64 : callOk Try.prog 64 = true := by kernel_rfl
theorem co65 : callOk Try.prog 65 = true := by kernel_rfl
theorem co69 : callOk Try.prog 69 = true := by kernel_rfl
theorem eg26 : Try.prog.eqGuardType Try.prog.depth 26 = false := by kernel_rfl
theorem fl26 : flatB Try.prog 26 .u64 4 = true := by kernel_rfl
set_option maxHeartbeats 1000000 in
theorem sWideDiv_ok {w : World} {x y : Int} (fx_ : fits x) (fy_ : fits y)  : Ct Try.prog 36 [.agg #[.int .u64 (wv3 x), .int .u64 (wv2 x), .int .u64 (wv1 x), .int .u64 (wv0 x)], .agg #[.int .u64 (wv3 y), .int .u64 (wv2 y), .int .u64 (wv1 y), .int .u64 (wv0 y)]] w fun v w1 => v = .tuple #[.agg #[.int .u64 (wv3 (pkz (dOk x y) (x / y))), .int .u64 (wv2 (pkz (dOk x y) (x / y))), .int .u64 (wv1 (pkz (dOk x y) (x / y))), .int .u64 (wv0 (pkz (dOk x y) (x / y)))], .agg #[.int .u64 (wv3 (pkz (dOk x y) (x % y))), .int .u64 (wv2 (pkz (dOk x y) (x % y))), .int .u64 (wv1 (pkz (dOk x y) (x % y))), .int .u64 (wv0 (pkz (dOk x y) (x % y)))], .bool (decide (dOk x y))] ∧ Ext w w1 := by
 refine ct_run (n := 46) Try.func36 rfl Try.ntmps36 rfl ?_
 have E0 : Below w.heap.size w w := Below.refl _ _
 refine rk_seq ?_
 refine rk_reg ?_
 refine lw_e (oe_box (v := .agg #[.int .u64 (wv3 x), .int .u64 (wv2 x), .int .u64 (wv1 x), .int .u64 (wv0 x)]) (cs := #[.int .u64 (wv3 x), .int .u64 (wv2 x), .int .u64 (wv1 x), .int .u64 (wv0 x)]) (T rfl rfl) rfl ?_)
 intro b1 w2 n3
 have N4 : w.heap.size ≤ b1 := n3.eq ▸ E0.size
 have E5 := below_ext E0 E0.size n3.ext
 refine lw_e (oe_box (v := .agg #[.int .u64 (wv3 y), .int .u64 (wv2 y), .int .u64 (wv1 y), .int .u64 (wv0 y)]) (cs := #[.int .u64 (wv3 y), .int .u64 (wv2 y), .int .u64 (wv1 y), .int .u64 (wv0 y)]) (T rfl rfl) rfl ?_)
 intro b6 w7 n8
 have N9 : w.heap.size ≤ b6 := n8.eq ▸ E5.size
 have : b1 < b6 := n8.eq ▸ lt_of_blk n3.blk
 have E10 := below_ext E5 E5.size n8.ext
 refine lw_e (oe_alloc ze26 ?_)
 intro b11 w12 n13
 have N14 : w.heap.size ≤ b11 := n13.eq ▸ E10.size
 have : b6 < b11 := n13.eq ▸ lt_of_blk n8.blk
 have E15 := below_ext E10 E10.size n13.ext
 refine lw_e (oe_alloc ze26 ?_)
 intro b16 w17 n18
 have N19 : w.heap.size ≤ b16 := n18.eq ▸ E15.size
 have : b11 < b16 := n18.eq ▸ lt_of_blk n13.blk
 have E20 := below_ext E15 E15.size n18.ext
 refine lw_v (.bool false) (dv_assign C) ?_
 refine lw_nil ?_
 refine rk_seq ?_
 refine rk_seq ?_
 refine rk_reg ?_
 have H21 := (n18.ext.blk (n13.ext.blk n8.blk))
 refine lw_v (.agg #[.int .u64 (wv3 y), .int .u64 (wv2 y), .int .u64 (wv1 y), .int .u64 (wv0 y)]) (dv_loads (l := [.int .u64 (wv3 y), .int .u64 (wv2 y), .int .u64 (wv1 y), .int .u64 (wv0 y)]) agt26 sz26 (T rfl rfl) H21 rfl) ?_
 refine lw_v (.agg #[.int .u64 0, .int .u64 0, .int .u64 0, .int .u64 0]) (dv_build (pv := []) (l := [.int .u64 0, .int .u64 0, .int .u64 0, .int .u64 0]) zc26 pl26 trivial rfl) ?_
 refine lw_v (.bool (decide (([wv3 y, wv2 y, wv1 y, wv0 y] : List Int) = [0, 0, 0, 0]))) (dv_eqls (k := .u64) (la := [wv3 y, wv2 y, wv1 y, wv0 y]) (lb := [0, 0, 0, 0]) fl26 eg26 (T rfl rfl) (T rfl rfl) rfl rfl) ?_
 refine lw_nil ?_
 by_cases hb22 : ([wv3 y, wv2 y, wv1 y, wv0 y] : List Int) = [0, 0, 0, 0]
 · have hz23 := (wl_zero fy_).1 hb22
   refine rk_ct (T rfl (congrArg Value.bool (decide_eq_true hb22))) ?_
   refine rk_seq ?_
   refine rk_reg ?_
   refine lw_v (.agg #[.int .u64 0, .int .u64 0, .int .u64 0, .int .u64 0]) (dv_build (pv := []) (l := [.int .u64 0, .int .u64 0, .int .u64 0, .int .u64 0]) zc26 pl26 trivial rfl) ?_
   refine lw_v (.agg #[.int .u64 0, .int .u64 0, .int .u64 0, .int .u64 0]) (dv_build (pv := []) (l := [.int .u64 0, .int .u64 0, .int .u64 0, .int .u64 0]) zc26 pl26 trivial rfl) ?_
   have H24 := (n18.ext.blk n13.blk)
   refine lw_e (oe_store (v := .agg #[.int .u64 0, .int .u64 0, .int .u64 0, .int .u64 0]) (vs := [.int .u64 0, .int .u64 0, .int .u64 0, .int .u64 0]) (l := [.int .u64 0, .int .u64 0, .int .u64 0, .int .u64 0]) (T rfl rfl) (T rfl rfl) sz26 rfl rfl rfl H24 rfl ?_)
   intro w25 s26 H27
   have E28 := below_st E20 N14 s26
   have H29 := (s26.blk n18.blk (by omega))
   refine lw_e (oe_store (v := .agg #[.int .u64 0, .int .u64 0, .int .u64 0, .int .u64 0]) (vs := [.int .u64 0, .int .u64 0, .int .u64 0, .int .u64 0]) (l := [.int .u64 0, .int .u64 0, .int .u64 0, .int .u64 0]) (T rfl rfl) (T rfl rfl) sz26 rfl rfl rfl H29 rfl ?_)
   intro w30 s31 H32
   have E33 := below_st E28 N19 s31
   refine lw_v (.bool false) (dv_assign C) ?_
   refine lw_nil ?_
   have H34 := (s31.blk H27 (by omega))
   refine rk_ret Try.func36 (v := .tuple #[.agg #[.int .u64 0, .int .u64 0, .int .u64 0, .int .u64 0], .agg #[.int .u64 0, .int .u64 0, .int .u64 0, .int .u64 0], .bool false]) (res3 Try.results36 (rv_cells (l := [.int .u64 0, .int .u64 0, .int .u64 0, .int .u64 0]) agt26 sz26 rfl rfl H34 rfl) (rv_cells (l := [.int .u64 0, .int .u64 0, .int .u64 0, .int .u64 0]) agt26 sz26 rfl rfl H32 rfl) (rv_tmp rfl rfl)) ⟨_, rfl, ?_⟩
   have hS : ¬ (dOk x y) := by intro hd; have h1 := hd.1; have h2 := hd.2.1; have h3 := hd.2.2; first | contradiction | simp_all
   exact ⟨(tu3 (ag4 (vi (wf3 hS)) (vi (wf2 hS)) (vi (wf1 hS)) (vi (wf0 hS))) (ag4 (vi (wf3 hS)) (vi (wf2 hS)) (vi (wf1 hS)) (vi (wf0 hS))) (vf hS)), E33⟩
 · have hz35 := mt (wl_zero fy_).2 hb22
   refine rk_cf (T rfl (congrArg Value.bool (decide_eq_false hb22))) ?_
   refine rk_skip ?_
   refine rk_seq ?_
   have H36 := (n18.ext.blk (n13.ext.blk (n8.ext.blk n3.blk)))
   have : b1 < w17.heap.size := lt_of_blk H36
   have : b6 < w17.heap.size := lt_of_blk H21
   have H37 := (n18.ext.blk n13.blk)
   have : b11 < w17.heap.size := lt_of_blk H37
   have : b16 < w17.heap.size := lt_of_blk n18.blk
   have : w.heap.size ≤ w17.heap.size := E20.size
   refine rk_par2 [fun vq wq_ => vq = .agg #[.int .u64 (wv3 x), .int .u64 (wv2 x), .int .u64 (wv1 x), .int .u64 (wv0 x)], fun vq wq_ => ∃ (nr52 : Bool) (A53 : Option Addr) (n54 : Nat) (c55 : Nat), vq = .agg #[.bool nr52, .slice A53 n54 c55] ∧ Num 32 95 .u32 wq_ nr52 A53 n54 c55 x 256, fun vq wq_ => vq = .agg #[.int .u64 (wv3 y), .int .u64 (wv2 y), .int .u64 (wv1 y), .int .u64 (wv0 y)], fun vq wq_ => ∃ (nr74 : Bool) (A75 : Option Addr) (n76 : Nat) (c77 : Nat), vq = .agg #[.bool nr74, .slice A75 n76 c77] ∧ Num 32 95 .u32 wq_ nr74 A75 n76 c77 y 256, fun vq wq_ => ∃ (nr100 : Bool) (A101 : Option Addr) (n102 : Nat) (c103 : Nat) (nr104 : Bool) (A105 : Option Addr) (n106 : Nat) (c107 : Nat), vq = .tuple #[.agg #[.bool nr100, .slice A101 n102 c103], .agg #[.bool nr104, .slice A105 n106 c107]] ∧ Num 32 95 .u32 wq_ nr100 A101 n102 c103 (x / y) 256 ∧ Num 32 95 .u32 wq_ nr104 A105 n106 c107 (x % y) 256, fun vq wq_ => ∃ (nr119 : Bool) (A120 : Option Addr) (n121 : Nat) (c122 : Nat) (nr123 : Bool) (A124 : Option Addr) (n125 : Nat) (c126 : Nat), vq = .tuple #[.agg #[.bool nr119, .slice A120 n121 c122], .agg #[.bool nr123, .slice A124 n125 c126]] ∧ Num 32 95 .u32 wq_ nr119 A120 n121 c122 (x / y) 256 ∧ Num 32 95 .u32 wq_ nr123 A124 n125 c126 (x % y) 256, fun vq wq_ => ∃ (nr136 : Bool) (A137 : Option Addr) (n138 : Nat) (c139 : Nat), vq = .agg #[.bool nr136, .slice A137 n138 c139] ∧ Num 32 95 .u32 wq_ nr136 A137 n138 c139 (x / y) 256, fun vq wq_ => ∃ (nr157 : Bool) (A158 : Option Addr) (n159 : Nat) (c160 : Nat), vq = .agg #[.bool nr157, .slice A158 n159 c160] ∧ Num 32 95 .u32 wq_ nr157 A158 n159 c160 (x % y) 256, fun _ _ => True, fun _ _ => True, fun _ _ => True, fun _ _ => True] [⟨8, 10, 6, 65, #[.bool false, .slice none 0 0]⟩, ⟨9, 11, 7, 65, #[.bool false, .slice none 0 0]⟩] [65] mo (by kernel_rfl) (by kernel_rfl) ?_ ?_ ?_ ?_ ?_
   · intro e he e2 he2 h; simp only [List.mem_cons, List.not_mem_nil, or_false] at he he2; rcases he with rfl | rfl <;> rcases he2 with rfl | rfl <;> first | rfl | exact absurd h (by decide)
   · exact ⟨⟨fun v w w2 e h => h, fun v w w2 b cs T fz s hb hT h => h⟩, ⟨fun v w w2 e ⟨nr52, A53, n54, c55, hv, h0_⟩ => ⟨nr52, A53, n54, c55, hv, h0_.ext e⟩, fun v w w2 b cs T fz s hb hT ⟨nr52, A53, n54, c55, hv, h0_⟩ => ⟨nr52, A53, n54, c55, hv, h0_.st s hb (ts_ne hT (by decide))⟩⟩, ⟨fun v w w2 e h => h, fun v w w2 b cs T fz s hb hT h => h⟩, ⟨fun v w w2 e ⟨nr74, A75, n76, c77, hv, h0_⟩ => ⟨nr74, A75, n76, c77, hv, h0_.ext e⟩, fun v w w2 b cs T fz s hb hT ⟨nr74, A75, n76, c77, hv, h0_⟩ => ⟨nr74, A75, n76, c77, hv, h0_.st s hb (ts_ne hT (by decide))⟩⟩, ⟨fun v w w2 e ⟨nr100, A101, n102, c103, nr104, A105, n106, c107, hv, h0_, h1_⟩ => ⟨nr100, A101, n102, c103, nr104, A105, n106, c107, hv, h0_.ext e, h1_.ext e⟩, fun v w w2 b cs T fz s hb hT ⟨nr100, A101, n102, c103, nr104, A105, n106, c107, hv, h0_, h1_⟩ => ⟨nr100, A101, n102, c103, nr104, A105, n106, c107, hv, h0_.st s hb (ts_ne hT (by decide)), h1_.st s hb (ts_ne hT (by decide))⟩⟩, ⟨fun v w w2 e ⟨nr119, A120, n121, c122, nr123, A124, n125, c126, hv, h0_, h1_⟩ => ⟨nr119, A120, n121, c122, nr123, A124, n125, c126, hv, h0_.ext e, h1_.ext e⟩, fun v w w2 b cs T fz s hb hT ⟨nr119, A120, n121, c122, nr123, A124, n125, c126, hv, h0_, h1_⟩ => ⟨nr119, A120, n121, c122, nr123, A124, n125, c126, hv, h0_.st s hb (ts_ne hT (by decide)), h1_.st s hb (ts_ne hT (by decide))⟩⟩, ⟨fun v w w2 e ⟨nr136, A137, n138, c139, hv, h0_⟩ => ⟨nr136, A137, n138, c139, hv, h0_.ext e⟩, fun v w w2 b cs T fz s hb hT ⟨nr136, A137, n138, c139, hv, h0_⟩ => ⟨nr136, A137, n138, c139, hv, h0_.st s hb (ts_ne hT (by decide))⟩⟩, ⟨fun v w w2 e ⟨nr157, A158, n159, c160, hv, h0_⟩ => ⟨nr157, A158, n159, c160, hv, h0_.ext e⟩, fun v w w2 b cs T fz s hb hT ⟨nr157, A158, n159, c160, hv, h0_⟩ => ⟨nr157, A158, n159, c160, hv, h0_.st s hb (ts_ne hT (by decide))⟩⟩, ⟨fun v w w2 e h => h, fun v w w2 b cs T fz s hb hT h => h⟩, ⟨fun v w w2 e h => h, fun v w w2 b cs T fz s hb hT h => h⟩, ⟨fun v w w2 e h => h, fun v w w2 b cs T fz s hb hT h => h⟩, ⟨fun v w w2 e h => h, fun v w w2 b cs T fz s hb hT h => h⟩, trivial⟩
   · refine ⟨?_, ?_, ?_, ?_, ?_, ?_, ?_, ?_, ?_, ?_, ?_, ?_, trivial⟩
     · refine .inr ⟨by kernel_rfl, ?_⟩
       intro fr39 w38 e40 hF41 hD42
       have E43 := below_ext E20 E20.size e40
       have H44 := (e40.blk H36)
       exact DV.oe (dv_loads (l := [.int .u64 (wv3 x), .int .u64 (wv2 x), .int .u64 (wv1 x), .int .u64 (wv0 x)]) agt26 sz26 (T rfl (hF41 2 (by kernel_rfl))) H44 rfl) ⟨Below.refl _ _, rfl⟩
     · refine .inr ⟨by kernel_rfl, ?_⟩
       intro fr46 w45 e47 hF48 hD49
       have E50 := below_ext E20 E20.size e47
       have hv51 : fr46 19 = .agg #[.int .u64 (wv3 x), .int .u64 (wv2 x), .int .u64 (wv1 x), .int .u64 (wv0 x)] := hD49 0 _ (by kernel_rfl) rfl (by kernel_rfl)
       refine id (oe_callf (vs := [.agg #[.int .u64 (wv3 x), .int .u64 (wv2 x), .int .u64 (wv1 x), .int .u64 (wv0 x)]]) co49 (ar1 (T rfl hv51)) (l1Fromz_ok (z := x) fx_) ?_)
       rintro _ w57 ⟨nr52, A53, n54, c55, rfl, e58, h56⟩
       have E59 := below_ext E50 E50.size e58
       have lh56 := Num.len (by decide) h56
       exact ⟨e58, nr52, A53, n54, c55, rfl, h56⟩
     · refine .inr ⟨by kernel_rfl, ?_⟩
       intro fr61 w60 e62 hF63 hD64
       have E65 := below_ext E20 E20.size e62
       have H66 := (e62.blk H21)
       exact DV.oe (dv_loads (l := [.int .u64 (wv3 y), .int .u64 (wv2 y), .int .u64 (wv1 y), .int .u64 (wv0 y)]) agt26 sz26 (T rfl (hF63 3 (by kernel_rfl))) H66 rfl) ⟨Below.refl _ _, rfl⟩
     · refine .inr ⟨by kernel_rfl, ?_⟩
       intro fr68 w67 e69 hF70 hD71
       have E72 := below_ext E20 E20.size e69
       have hv73 : fr68 21 = .agg #[.int .u64 (wv3 y), .int .u64 (wv2 y), .int .u64 (wv1 y), .int .u64 (wv0 y)] := hD71 2 _ (by kernel_rfl) rfl (by kernel_rfl)
       refine id (oe_callf (vs := [.agg #[.int .u64 (wv3 y), .int .u64 (wv2 y), .int .u64 (wv1 y), .int .u64 (wv0 y)]]) co49 (ar1 (T rfl hv73)) (l1Fromz_ok (z := y) fy_) ?_)
       rintro _ w79 ⟨nr74, A75, n76, c77, rfl, e80, h78⟩
       have E81 := below_ext E72 E72.size e80
       have lh78 := Num.len (by decide) h78
       exact ⟨e80, nr74, A75, n76, c77, rfl, h78⟩
     · refine .inr ⟨by kernel_rfl, ?_⟩
       intro fr83 w82 e84 hF85 hD86
       have E87 := below_ext E20 E20.size e84
       obtain ⟨nr88, A89, n90, c91, hv92, hp93⟩ : ∃ (nr52 : Bool) (A53 : Option Addr) (n54 : Nat) (c55 : Nat), fr83 20 = .agg #[.bool nr52, .slice A53 n54 c55] ∧ Num 32 95 .u32 w82 nr52 A53 n54 c55 x 256 := hD86 1 _ (by kernel_rfl) rfl (by kernel_rfl)
       have lhp93 := Num.len (by decide) hp93
       obtain ⟨nr94, A95, n96, c97, hv98, hp99⟩ : ∃ (nr74 : Bool) (A75 : Option Addr) (n76 : Nat) (c77 : Nat), fr83 22 = .agg #[.bool nr74, .slice A75 n76 c77] ∧ Num 32 95 .u32 w82 nr74 A75 n76 c77 y 256 := hD86 3 _ (by kernel_rfl) rfl (by kernel_rfl)
       have lhp99 := Num.len (by decide) hp99
       refine id (oe_callf (vs := [.agg #[.bool nr88, .slice A89 n90 c91], .agg #[.bool nr94, .slice A95 n96 c97]]) co69 (ar2 (T rfl hv92) (T rfl hv98)) (l1Div_ok hp93 hp99 (by omega) (by first | decide | omega) (by first | decide | omega)) ?_)
       rintro _ w110 ⟨nr100, A101, n102, c103, nr104, A105, n106, c107, rfl, e111, h108, h109⟩
       have E112 := below_ext E87 E87.size e111
       have lh108 := Num.len (by decide) h108
       have lh109 := Num.len (by decide) h109
       exact ⟨e111, nr100, A101, n102, c103, nr104, A105, n106, c107, rfl, h108, h109⟩
     · refine .inr ⟨by kernel_rfl, ?_⟩
       intro fr114 w113 e115 hF116 hD117
       have E118 := below_ext E20 E20.size e115
       obtain ⟨nr119, A120, n121, c122, nr123, A124, n125, c126, hv127, hp128, hp129⟩ : ∃ (nr100 : Bool) (A101 : Option Addr) (n102 : Nat) (c103 : Nat) (nr104 : Bool) (A105 : Option Addr) (n106 : Nat) (c107 : Nat), fr114 23 = .tuple #[.agg #[.bool nr100, .slice A101 n102 c103], .agg #[.bool nr104, .slice A105 n106 c107]] ∧ Num 32 95 .u32 w113 nr100 A101 n102 c103 (x / y) 256 ∧ Num 32 95 .u32 w113 nr104 A105 n106 c107 (x % y) 256 := hD117 4 _ (by kernel_rfl) rfl (by kernel_rfl)
       have lhp128 := Num.len (by decide) hp128
       have lhp129 := Num.len (by decide) hp129
       exact DV.oe (dv_move (T rfl hv127)) ⟨Below.refl _ _, nr119, A120, n121, c122, nr123, A124, n125, c126, rfl, hp128, hp129⟩
     · refine .inr ⟨by kernel_rfl, ?_⟩
       intro fr131 w130 e132 hF133 hD134
       have E135 := below_ext E20 E20.size e132
       obtain ⟨nr136, A137, n138, c139, nr140, A141, n142, c143, hv144, hp145, hp146⟩ : ∃ (nr119 : Bool) (A120 : Option Addr) (n121 : Nat) (c122 : Nat) (nr123 : Bool) (A124 : Option Addr) (n125 : Nat) (c126 : Nat), fr131 18 = .tuple #[.agg #[.bool nr119, .slice A120 n121 c122], .agg #[.bool nr123, .slice A124 n125 c126]] ∧ Num 32 95 .u32 w130 nr119 A120 n121 c122 (x / y) 256 ∧ Num 32 95 .u32 w130 nr123 A124 n125 c126 (x % y) 256 := hD134 5 _ (by kernel_rfl) rfl (by kernel_rfl)
       have lhp145 := Num.len (by decide) hp145
       have lhp146 := Num.len (by decide) hp146
       exact DV.oe (dv_extract (vs := #[.agg #[.bool nr136, .slice A137 n138 c139], .agg #[.bool nr140, .slice A141 n142 c143]]) (T rfl hv144) rfl) ⟨Below.refl _ _, nr136, A137, n138, c139, rfl, hp145⟩
     · refine .inr ⟨by kernel_rfl, ?_⟩
       intro fr148 w147 e149 hF150 hD151
       have E152 := below_ext E20 E20.size e149
       obtain ⟨nr153, A154, n155, c156, nr157, A158, n159, c160, hv161, hp162, hp163⟩ : ∃ (nr119 : Bool) (A120 : Option Addr) (n121 : Nat) (c122 : Nat) (nr123 : Bool) (A124 : Option Addr) (n125 : Nat) (c126 : Nat), fr148 18 = .tuple #[.agg #[.bool nr119, .slice A120 n121 c122], .agg #[.bool nr123, .slice A124 n125 c126]] ∧ Num 32 95 .u32 w147 nr119 A120 n121 c122 (x / y) 256 ∧ Num 32 95 .u32 w147 nr123 A124 n125 c126 (x % y) 256 := hD151 5 _ (by kernel_rfl) rfl (by kernel_rfl)
       have lhp162 := Num.len (by decide) hp162
       have lhp163 := Num.len (by decide) hp163
       exact DV.oe (dv_extract (vs := #[.agg #[.bool nr153, .slice A154 n155 c156], .agg #[.bool nr157, .slice A158 n159 c160]]) (T rfl hv161) rfl) ⟨Below.refl _ _, nr157, A158, n159, c160, rfl, hp163⟩
     · exact .inl (.inr ⟨by kernel_rfl, fun _ _ => trivial⟩)
     · exact .inl (.inr ⟨by kernel_rfl, fun _ _ => trivial⟩)
     · exact .inl (.inl (by kernel_rfl))
     · exact .inl (.inl (by kernel_rfl))
   · refine ⟨⟨⟨_, rfl, fun _ _ => oe_alloc ze65 fun b w hn => ⟨b, rfl, hn⟩⟩, ⟨_, rfl, ?_⟩⟩, ⟨⟨_, rfl, fun _ _ => oe_alloc ze65 fun b w hn => ⟨b, rfl, hn⟩⟩, ⟨_, rfl, ?_⟩⟩, trivial⟩
     · intro fr165 w164 b169 e166 hF167 hD168 hA170 hB171
       have E172 := below_ext E20 E20.size e166
       obtain ⟨nr173, A174, n175, c176, hv177, hp178⟩ : ∃ (nr136 : Bool) (A137 : Option Addr) (n138 : Nat) (c139 : Nat), fr165 24 = .agg #[.bool nr136, .slice A137 n138 c139] ∧ Num 32 95 .u32 w164 nr136 A137 n138 c139 (x / y) 256 := hD168 6 _ (by kernel_rfl) rfl (by kernel_rfl)
       have lhp178 := Num.len (by decide) hp178
       refine id (oe_store (v := .agg #[.bool nr173, .slice A174 n175 c176]) (vs := [.bool nr173, .slice A174 n175 c176]) (l := [.bool nr173, .slice A174 n175 c176]) (T rfl hA170) (T rfl hv177) sz65 rfl rfl rfl hB171 rfl ?_)
       intro w179 s180 H181
       exact ⟨s180, H181.trans (congrArg (fun v : Value => some (Obj.cells v.cells 65)) (show fr165 24 = _ from hv177).symm)⟩
     · intro fr184 w183 b188 e185 hF186 hD187 hA189 hB190
       have E191 := below_ext E20 E20.size e185
       obtain ⟨nr192, A193, n194, c195, hv196, hp197⟩ : ∃ (nr157 : Bool) (A158 : Option Addr) (n159 : Nat) (c160 : Nat), fr184 25 = .agg #[.bool nr157, .slice A158 n159 c160] ∧ Num 32 95 .u32 w183 nr157 A158 n159 c160 (x % y) 256 := hD187 7 _ (by kernel_rfl) rfl (by kernel_rfl)
       have lhp197 := Num.len (by decide) hp197
       refine id (oe_store (v := .agg #[.bool nr192, .slice A193 n194 c195]) (vs := [.bool nr192, .slice A193 n194 c195]) (l := [.bool nr192, .slice A193 n194 c195]) (T rfl hA189) (T rfl hv196) sz65 rfl rfl rfl hB190 rfl ?_)
       intro w198 s199 H200
       exact ⟨s199, H200.trans (congrArg (fun v : Value => some (Obj.cells v.cells 65)) (show fr184 25 = _ from hv196).symm)⟩
   intro fr203 w202 e204 hF205 hP206 hM207 hN208
   have E209 := below_ext E20 E20.size e204
   obtain ⟨_, _, _, _, _, _, p210, p211, _, _, _, _, _⟩ := hP206
   obtain ⟨nr212, A213, n214, c215, hv216, hp217⟩ : ∃ (nr136 : Bool) (A137 : Option Addr) (n138 : Nat) (c139 : Nat), fr203 24 = .agg #[.bool nr136, .slice A137 n138 c139] ∧ Num 32 95 .u32 w202 nr136 A137 n138 c139 (x / y) 256 := p210.resolve_left (nst (by kernel_rfl))
   have lhp217 := Num.len (by decide) hp217
   obtain ⟨nr218, A219, n220, c221, hv222, hp223⟩ : ∃ (nr157 : Bool) (A158 : Option Addr) (n159 : Nat) (c160 : Nat), fr203 25 = .agg #[.bool nr157, .slice A158 n159 c160] ∧ Num 32 95 .u32 w202 nr157 A158 n159 c160 (x % y) 256 := p211.resolve_left (nst (by kernel_rfl))
   have lhp223 := Num.len (by decide) hp223
   obtain ⟨⟨b224, hA225, hB226, hC227⟩, ⟨b228, hA229, hB230, hC231⟩, _⟩ := hM207
   have H232 : w202.heap[b224]? = some (.cells #[.bool nr212, .slice A213 n214 c215] 65) := hC227.trans (congrArg (fun v : Value => some (Obj.cells v.cells 65)) hv216)
   have N233 : w.heap.size ≤ b224 := by omega
   have H234 : w202.heap[b228]? = some (.cells #[.bool nr218, .slice A219 n220 c221] 65) := hC231.trans (congrArg (fun v : Value => some (Obj.cells v.cells 65)) hv222)
   have N235 : w.heap.size ≤ b228 := by omega
   have : b228 ≠ b224 := fun hh => hN208 _ (.tail _ (.head _)) _ (.head _) (by decide) (hA229.trans ((congrArg (fun q => Value.pointer (some ⟨q, 0, none⟩)) hh).trans hA225.symm))
   refine rk_seq ?_
   refine rk_reg ?_
   refine lw_v (.agg #[.bool nr212, .slice A213 n214 c215]) (dv_loads (l := [.bool nr212, .slice A213 n214 c215]) agt65 sz65 (T rfl hA225) H232 rfl) ?_
   refine lw_e (oe_callf (vs := [.agg #[.bool nr212, .slice A213 n214 c215]]) co54 (ar1 (T rfl rfl)) (l1Wide_ok hp217 (by first | decide | omega)) ?_)
   rintro _ w237 ⟨rfl, e238⟩
   have E239 := below_ext E209 E209.size e238
   have bw236 := w_rg (x / y)
   refine lw_v (.tuple #[.agg #[.int .u64 (wv3 (x / y)), .int .u64 (wv2 (x / y)), .int .u64 (wv1 (x / y)), .int .u64 (wv0 (x / y))], .bool (decide (fits (x / y)))]) (dv_move (T rfl rfl)) ?_
   refine lw_v (.agg #[.int .u64 (wv3 (x / y)), .int .u64 (wv2 (x / y)), .int .u64 (wv1 (x / y)), .int .u64 (wv0 (x / y))]) (dv_extract (vs := #[.agg #[.int .u64 (wv3 (x / y)), .int .u64 (wv2 (x / y)), .int .u64 (wv1 (x / y)), .int .u64 (wv0 (x / y))], .bool (decide (fits (x / y)))]) (T rfl rfl) rfl) ?_
   refine lw_v (.bool (decide (fits (x / y)))) (dv_extract (vs := #[.agg #[.int .u64 (wv3 (x / y)), .int .u64 (wv2 (x / y)), .int .u64 (wv1 (x / y)), .int .u64 (wv0 (x / y))], .bool (decide (fits (x / y)))]) (T rfl rfl) rfl) ?_
   refine lw_e (oe_alloc ze26 ?_)
   intro b240 w241 n242
   have N243 : w.heap.size ≤ b240 := n242.eq ▸ E239.size
   have H244 := (e238.blk (e204.blk H36))
   have : b1 < b240 := n242.eq ▸ lt_of_blk H244
   have H245 := (e238.blk (e204.blk H21))
   have : b6 < b240 := n242.eq ▸ lt_of_blk H245
   have H246 := (e238.blk (e204.blk H37))
   have : b11 < b240 := n242.eq ▸ lt_of_blk H246
   have H247 := (e238.blk (e204.blk n18.blk))
   have : b16 < b240 := n242.eq ▸ lt_of_blk H247
   have H248 := (e238.blk H232)
   have : b224 < b240 := n242.eq ▸ lt_of_blk H248
   have H249 := (e238.blk H234)
   have : b228 < b240 := n242.eq ▸ lt_of_blk H249
   have E250 := below_ext E239 E239.size n242.ext
   refine lw_e (oe_store (v := .agg #[.int .u64 (wv3 (x / y)), .int .u64 (wv2 (x / y)), .int .u64 (wv1 (x / y)), .int .u64 (wv0 (x / y))]) (vs := [.int .u64 (wv3 (x / y)), .int .u64 (wv2 (x / y)), .int .u64 (wv1 (x / y)), .int .u64 (wv0 (x / y))]) (l := [.int .u64 (wv3 (x / y)), .int .u64 (wv2 (x / y)), .int .u64 (wv1 (x / y)), .int .u64 (wv0 (x / y))]) (T rfl rfl) (T rfl rfl) sz26 rfl rfl rfl n242.blk rfl ?_)
   intro w251 s252 H253
   have E254 := below_st E250 N243 s252
   refine lw_v (.bool (decide (fits (x / y)))) (dv_assign (T rfl rfl)) ?_
   refine lw_nil ?_
   refine rk_seq ?_
   refine rk_reg ?_
   have H255 := (s252.blk (n242.ext.blk H249) (by omega))
   refine lw_v (.agg #[.bool nr218, .slice A219 n220 c221]) (dv_loads (l := [.bool nr218, .slice A219 n220 c221]) agt65 sz65 (T rfl hA229) H255 rfl) ?_
   have h256 := (((hp223.ext e238).ext n242.ext).st s252 n242.blk (by decide))
   refine lw_e (oe_callf (vs := [.agg #[.bool nr218, .slice A219 n220 c221]]) co54 (ar1 (T rfl rfl)) (l1Wide_ok h256 (by first | decide | omega)) ?_)
   rintro _ w258 ⟨rfl, e259⟩
   have E260 := below_ext E254 E254.size e259
   have bw257 := w_rg (x % y)
   refine lw_v (.tuple #[.agg #[.int .u64 (wv3 (x % y)), .int .u64 (wv2 (x % y)), .int .u64 (wv1 (x % y)), .int .u64 (wv0 (x % y))], .bool (decide (fits (x % y)))]) (dv_move (T rfl rfl)) ?_
   refine lw_v (.agg #[.int .u64 (wv3 (x % y)), .int .u64 (wv2 (x % y)), .int .u64 (wv1 (x % y)), .int .u64 (wv0 (x % y))]) (dv_extract (vs := #[.agg #[.int .u64 (wv3 (x % y)), .int .u64 (wv2 (x % y)), .int .u64 (wv1 (x % y)), .int .u64 (wv0 (x % y))], .bool (decide (fits (x % y)))]) (T rfl rfl) rfl) ?_
   refine lw_v (.bool (decide (fits (x % y)))) (dv_extract (vs := #[.agg #[.int .u64 (wv3 (x % y)), .int .u64 (wv2 (x % y)), .int .u64 (wv1 (x % y)), .int .u64 (wv0 (x % y))], .bool (decide (fits (x % y)))]) (T rfl rfl) rfl) ?_
   refine lw_e (oe_alloc ze26 ?_)
   intro b261 w262 n263
   have N264 : w.heap.size ≤ b261 := n263.eq ▸ E260.size
   have H265 := (e259.blk (s252.blk (n242.ext.blk H244) (by omega)))
   have : b1 < b261 := n263.eq ▸ lt_of_blk H265
   have H266 := (e259.blk (s252.blk (n242.ext.blk H245) (by omega)))
   have : b6 < b261 := n263.eq ▸ lt_of_blk H266
   have H267 := (e259.blk (s252.blk (n242.ext.blk H246) (by omega)))
   have : b11 < b261 := n263.eq ▸ lt_of_blk H267
   have H268 := (e259.blk (s252.blk (n242.ext.blk H247) (by omega)))
   have : b16 < b261 := n263.eq ▸ lt_of_blk H268
   have H269 := (e259.blk (s252.blk (n242.ext.blk H248) (by omega)))
   have : b224 < b261 := n263.eq ▸ lt_of_blk H269
   have H270 := (e259.blk H255)
   have : b228 < b261 := n263.eq ▸ lt_of_blk H270
   have H271 := (e259.blk H253)
   have : b240 < b261 := n263.eq ▸ lt_of_blk H271
   have E272 := below_ext E260 E260.size n263.ext
   refine lw_e (oe_store (v := .agg #[.int .u64 (wv3 (x % y)), .int .u64 (wv2 (x % y)), .int .u64 (wv1 (x % y)), .int .u64 (wv0 (x % y))]) (vs := [.int .u64 (wv3 (x % y)), .int .u64 (wv2 (x % y)), .int .u64 (wv1 (x % y)), .int .u64 (wv0 (x % y))]) (l := [.int .u64 (wv3 (x % y)), .int .u64 (wv2 (x % y)), .int .u64 (wv1 (x % y)), .int .u64 (wv0 (x % y))]) (T rfl rfl) (T rfl rfl) sz26 rfl rfl rfl n263.blk rfl ?_)
   intro w273 s274 H275
   have E276 := below_st E272 N264 s274
   refine lw_v (.bool (decide (fits (x % y)))) (dv_assign (T rfl rfl)) ?_
   refine lw_nil ?_
   refine rk_seq ?_
   refine rk_seq ?_
   refine rk_reg ?_
   refine lw_v (.bool (decide (fits (x / y)))) (dv_move (T rfl rfl)) ?_
   refine lw_v (.bool (decide (¬ (fits (x / y))))) (dv_notd (p := fits (x / y)) (T rfl rfl)) ?_
   refine lw_v (.bool (decide (¬ (fits (x / y))))) (dv_move (T rfl rfl)) ?_
   by_cases hb277 : fits (x / y)
   · refine lw_vy (.bool (decide (fits (x % y)))) (d := 38) rfl rfl (congrArg Value.bool (decide_eq_false (not_not_intro hb277))) (dv_move (T rfl rfl)) ?_
     refine lw_vy (.bool (decide (¬ (fits (x % y))))) (d := 38) rfl rfl (congrArg Value.bool (decide_eq_false (not_not_intro hb277))) (dv_notd (p := fits (x % y)) (T rfl rfl)) ?_
     refine lw_v (.bool (decide (¬ (fits (x % y))))) (dv_pick_f (T rfl (congrArg Value.bool (decide_eq_false (not_not_intro hb277)))) (T rfl rfl)) ?_
     refine lw_nil ?_
     by_cases hb278 : fits (x % y)
     · refine rk_cf (T rfl (congrArg Value.bool (decide_eq_false (not_not_intro hb278)))) ?_
       refine rk_skip ?_
       refine rk_seq ?_
       refine rk_any (fun w => w.heap[b240]? = some (.cells #[.int .u64 (wv3 (x / y)), .int .u64 (wv2 (x / y)), .int .u64 (wv1 (x / y)), .int .u64 (wv0 (x / y))] 26) ∧ w.heap[b261]? = some (.cells #[.int .u64 (wv3 (x % y)), .int .u64 (wv2 (x % y)), .int .u64 (wv1 (x % y)), .int .u64 (wv0 (x % y))] 26)) [4] mo ?_
       intro w279 d280
       have E281 := below_ext E276 E276.size d280.ext
       have H282 := (d280.ext.blk (s274.blk (n263.ext.blk H271) (by omega)))
       have H283 := (d280.ext.blk H275)
       refine aw_load 0 (.agg #[.int .u64 (wv3 (x / y)), .int .u64 (wv2 (x / y)), .int .u64 (wv1 (x / y)), .int .u64 (wv0 (x / y))]) rfl (by kernel_rfl) .none ⟨H282, H283⟩ (fun _ s => dv_loads (l := [.int .u64 (wv3 (x / y)), .int .u64 (wv2 (x / y)), .int .u64 (wv1 (x / y)), .int .u64 (wv0 (x / y))]) agt26 sz26 (T rfl rfl) s.1 rfl) ?_
       refine aw_load 1 (.agg #[.int .u64 (wv3 (x % y)), .int .u64 (wv2 (x % y)), .int .u64 (wv1 (x % y)), .int .u64 (wv0 (x % y))]) rfl (by kernel_rfl) .none ⟨H282, H283⟩ (fun _ s => dv_loads (l := [.int .u64 (wv3 (x % y)), .int .u64 (wv2 (x % y)), .int .u64 (wv1 (x % y)), .int .u64 (wv0 (x % y))]) agt26 sz26 (T rfl rfl) s.2 rfl) ?_
       have H284 := (d280.ext.blk (s274.blk (n263.ext.blk H267) (by omega)))
       refine aw_one 2 rfl (by kernel_rfl) .none (oe_store (v := .agg #[.int .u64 (wv3 (x / y)), .int .u64 (wv2 (x / y)), .int .u64 (wv1 (x / y)), .int .u64 (wv0 (x / y))]) (vs := [.int .u64 (wv3 (x / y)), .int .u64 (wv2 (x / y)), .int .u64 (wv1 (x / y)), .int .u64 (wv0 (x / y))]) (l := [.int .u64 (wv3 (x / y)), .int .u64 (wv2 (x / y)), .int .u64 (wv1 (x / y)), .int .u64 (wv0 (x / y))]) (T rfl (hF205 4 rfl)) (T rfl rfl) sz26 rfl rfl rfl H284 rfl ?_)
       intro w285 s286 H287
       have E288 := below_st E281 N14 s286
       have H289 := (s286.blk H282 (by omega))
       have H290 := (s286.blk H283 (by omega))
       refine ⟨.inr ⟨H289, H290⟩, ?_⟩
       have H291 := (s286.blk (d280.ext.blk (s274.blk (n263.ext.blk H268) (by omega))) (by omega))
       refine aw_one 3 rfl (by kernel_rfl) .none (oe_store (v := .agg #[.int .u64 (wv3 (x % y)), .int .u64 (wv2 (x % y)), .int .u64 (wv1 (x % y)), .int .u64 (wv0 (x % y))]) (vs := [.int .u64 (wv3 (x % y)), .int .u64 (wv2 (x % y)), .int .u64 (wv1 (x % y)), .int .u64 (wv0 (x % y))]) (l := [.int .u64 (wv3 (x % y)), .int .u64 (wv2 (x % y)), .int .u64 (wv1 (x % y)), .int .u64 (wv0 (x % y))]) (T rfl (hF205 5 rfl)) (T rfl rfl) sz26 rfl rfl rfl H291 rfl ?_)
       intro w292 s293 H294
       have E295 := below_st E288 N19 s293
       have H296 := (s293.blk H289 (by omega))
       have H297 := (s293.blk H290 (by omega))
       refine ⟨.inr ⟨H296, H297⟩, ?_⟩
       refine aw_last 4 (.bool true) rfl (by kernel_rfl) .none (fun _ => dv_assign C) ?_
       refine aw_done (by kernel_rfl) ?_
       have H298 := (s293.blk H287 (by omega))
       refine rk_ret Try.func36 (v := .tuple #[.agg #[.int .u64 (wv3 (x / y)), .int .u64 (wv2 (x / y)), .int .u64 (wv1 (x / y)), .int .u64 (wv0 (x / y))], .agg #[.int .u64 (wv3 (x % y)), .int .u64 (wv2 (x % y)), .int .u64 (wv1 (x % y)), .int .u64 (wv0 (x % y))], .bool true]) (res3 Try.results36 (rv_cells (l := [.int .u64 (wv3 (x / y)), .int .u64 (wv2 (x / y)), .int .u64 (wv1 (x / y)), .int .u64 (wv0 (x / y))]) agt26 sz26 rfl (hF205 4 rfl) H298 rfl) (rv_cells (l := [.int .u64 (wv3 (x % y)), .int .u64 (wv2 (x % y)), .int .u64 (wv1 (x % y)), .int .u64 (wv0 (x % y))]) agt26 sz26 rfl (hF205 5 rfl) H294 rfl) (rv_tmp rfl rfl)) ⟨_, rfl, ?_⟩
       have hS : dOk x y := by exact ⟨by assumption, by first | assumption | simpa using ‹_›, by first | assumption | simpa using ‹_›⟩
       exact ⟨(tu3 (ag4 (vi (by rw [pkz_t hS])) (vi (by rw [pkz_t hS])) (vi (by rw [pkz_t hS])) (vi (by rw [pkz_t hS]))) (ag4 (vi (by rw [pkz_t hS])) (vi (by rw [pkz_t hS])) (vi (by rw [pkz_t hS])) (vi (by rw [pkz_t hS]))) (vt hS)), E295⟩
     · refine rk_ct (T rfl (congrArg Value.bool (decide_eq_true hb278))) ?_
       refine rk_seq ?_
       refine rk_reg ?_
       refine lw_v (.agg #[.int .u64 0, .int .u64 0, .int .u64 0, .int .u64 0]) (dv_build (pv := []) (l := [.int .u64 0, .int .u64 0, .int .u64 0, .int .u64 0]) zc26 pl26 trivial rfl) ?_
       refine lw_v (.agg #[.int .u64 0, .int .u64 0, .int .u64 0, .int .u64 0]) (dv_build (pv := []) (l := [.int .u64 0, .int .u64 0, .int .u64 0, .int .u64 0]) zc26 pl26 trivial rfl) ?_
       have H299 := (s274.blk (n263.ext.blk H267) (by omega))
       refine lw_e (oe_store (v := .agg #[.int .u64 0, .int .u64 0, .int .u64 0, .int .u64 0]) (vs := [.int .u64 0, .int .u64 0, .int .u64 0, .int .u64 0]) (l := [.int .u64 0, .int .u64 0, .int .u64 0, .int .u64 0]) (T rfl (hF205 4 rfl)) (T rfl rfl) sz26 rfl rfl rfl H299 rfl ?_)
       intro w300 s301 H302
       have E303 := below_st E276 N14 s301
       have H304 := (s301.blk (s274.blk (n263.ext.blk H268) (by omega)) (by omega))
       refine lw_e (oe_store (v := .agg #[.int .u64 0, .int .u64 0, .int .u64 0, .int .u64 0]) (vs := [.int .u64 0, .int .u64 0, .int .u64 0, .int .u64 0]) (l := [.int .u64 0, .int .u64 0, .int .u64 0, .int .u64 0]) (T rfl (hF205 5 rfl)) (T rfl rfl) sz26 rfl rfl rfl H304 rfl ?_)
       intro w305 s306 H307
       have E308 := below_st E303 N19 s306
       refine lw_v (.bool false) (dv_assign C) ?_
       refine lw_nil ?_
       have H309 := (s306.blk H302 (by omega))
       refine rk_ret Try.func36 (v := .tuple #[.agg #[.int .u64 0, .int .u64 0, .int .u64 0, .int .u64 0], .agg #[.int .u64 0, .int .u64 0, .int .u64 0, .int .u64 0], .bool false]) (res3 Try.results36 (rv_cells (l := [.int .u64 0, .int .u64 0, .int .u64 0, .int .u64 0]) agt26 sz26 rfl (hF205 4 rfl) H309 rfl) (rv_cells (l := [.int .u64 0, .int .u64 0, .int .u64 0, .int .u64 0]) agt26 sz26 rfl (hF205 5 rfl) H307 rfl) (rv_tmp rfl rfl)) ⟨_, rfl, ?_⟩
       have hS : ¬ (dOk x y) := by intro hd; have h1 := hd.1; have h2 := hd.2.1; have h3 := hd.2.2; first | contradiction | simp_all
       exact ⟨(tu3 (ag4 (vi (wf3 hS)) (vi (wf2 hS)) (vi (wf1 hS)) (vi (wf0 hS))) (ag4 (vi (wf3 hS)) (vi (wf2 hS)) (vi (wf1 hS)) (vi (wf0 hS))) (vf hS)), E308⟩
   · refine lw_no (d := 38) rfl rfl (congrArg Value.bool (decide_eq_true hb277)) ?_
     refine lw_no (d := 38) rfl rfl (congrArg Value.bool (decide_eq_true hb277)) ?_
     refine lw_v (.bool true) (dv_pick_t (T rfl (congrArg Value.bool (decide_eq_true hb277))) C) ?_
     refine lw_nil ?_
     refine rk_ct (T rfl rfl) ?_
     refine rk_seq ?_
     refine rk_reg ?_
     refine lw_v (.agg #[.int .u64 0, .int .u64 0, .int .u64 0, .int .u64 0]) (dv_build (pv := []) (l := [.int .u64 0, .int .u64 0, .int .u64 0, .int .u64 0]) zc26 pl26 trivial rfl) ?_
     refine lw_v (.agg #[.int .u64 0, .int .u64 0, .int .u64 0, .int .u64 0]) (dv_build (pv := []) (l := [.int .u64 0, .int .u64 0, .int .u64 0, .int .u64 0]) zc26 pl26 trivial rfl) ?_
     have H310 := (s274.blk (n263.ext.blk H267) (by omega))
     refine lw_e (oe_store (v := .agg #[.int .u64 0, .int .u64 0, .int .u64 0, .int .u64 0]) (vs := [.int .u64 0, .int .u64 0, .int .u64 0, .int .u64 0]) (l := [.int .u64 0, .int .u64 0, .int .u64 0, .int .u64 0]) (T rfl (hF205 4 rfl)) (T rfl rfl) sz26 rfl rfl rfl H310 rfl ?_)
     intro w311 s312 H313
     have E314 := below_st E276 N14 s312
     have H315 := (s312.blk (s274.blk (n263.ext.blk H268) (by omega)) (by omega))
     refine lw_e (oe_store (v := .agg #[.int .u64 0, .int .u64 0, .int .u64 0, .int .u64 0]) (vs := [.int .u64 0, .int .u64 0, .int .u64 0, .int .u64 0]) (l := [.int .u64 0, .int .u64 0, .int .u64 0, .int .u64 0]) (T rfl (hF205 5 rfl)) (T rfl rfl) sz26 rfl rfl rfl H315 rfl ?_)
     intro w316 s317 H318
     have E319 := below_st E314 N19 s317
     refine lw_v (.bool false) (dv_assign C) ?_
     refine lw_nil ?_
     have H320 := (s317.blk H313 (by omega))
     refine rk_ret Try.func36 (v := .tuple #[.agg #[.int .u64 0, .int .u64 0, .int .u64 0, .int .u64 0], .agg #[.int .u64 0, .int .u64 0, .int .u64 0, .int .u64 0], .bool false]) (res3 Try.results36 (rv_cells (l := [.int .u64 0, .int .u64 0, .int .u64 0, .int .u64 0]) agt26 sz26 rfl (hF205 4 rfl) H320 rfl) (rv_cells (l := [.int .u64 0, .int .u64 0, .int .u64 0, .int .u64 0]) agt26 sz26 rfl (hF205 5 rfl) H318 rfl) (rv_tmp rfl rfl)) ⟨_, rfl, ?_⟩
     have hS : ¬ (dOk x y) := by intro hd; have h1 := hd.1; have h2 := hd.2.1; have h3 := hd.2.2; first | contradiction | simp_all
     exact ⟨(tu3 (ag4 (vi (wf3 hS)) (vi (wf2 hS)) (vi (wf1 hS)) (vi (wf0 hS))) (ag4 (vi (wf3 hS)) (vi (wf2 hS)) (vi (wf1 hS)) (vi (wf0 hS))) (vf hS)), E319⟩
set_option maxHeartbeats 1000000 in
theorem iWideDiv_ok {w : World} {x y : Int} (fx_ : fits x) (fy_ : fits y)  : Ct Try.prog 29 [.agg #[.int .u64 (wv3 x), .int .u64 (wv2 x), .int .u64 (wv1 x), .int .u64 (wv0 x)], .agg #[.int .u64 (wv3 y), .int .u64 (wv2 y), .int .u64 (wv1 y), .int .u64 (wv0 y)]] w fun v w1 => v = .tuple #[.agg #[.int .u64 (wv3 (pkz (dOk x y) (x / y))), .int .u64 (wv2 (pkz (dOk x y) (x / y))), .int .u64 (wv1 (pkz (dOk x y) (x / y))), .int .u64 (wv0 (pkz (dOk x y) (x / y)))], .agg #[.int .u64 (wv3 (pkz (dOk x y) (x % y))), .int .u64 (wv2 (pkz (dOk x y) (x % y))), .int .u64 (wv1 (pkz (dOk x y) (x % y))), .int .u64 (wv0 (pkz (dOk x y) (x % y)))], .bool (decide (dOk x y))] ∧ Ext w w1 := by
 refine ct_run (n := 46) Try.func29 rfl Try.ntmps29 rfl ?_
 have E0 : Below w.heap.size w w := Below.refl _ _
 refine rk_seq ?_
 refine rk_reg ?_
 refine lw_e (oe_box (v := .agg #[.int .u64 (wv3 x), .int .u64 (wv2 x), .int .u64 (wv1 x), .int .u64 (wv0 x)]) (cs := #[.int .u64 (wv3 x), .int .u64 (wv2 x), .int .u64 (wv1 x), .int .u64 (wv0 x)]) (T rfl rfl) rfl ?_)
 intro b1 w2 n3
 have N4 : w.heap.size ≤ b1 := n3.eq ▸ E0.size
 have E5 := below_ext E0 E0.size n3.ext
 refine lw_e (oe_box (v := .agg #[.int .u64 (wv3 y), .int .u64 (wv2 y), .int .u64 (wv1 y), .int .u64 (wv0 y)]) (cs := #[.int .u64 (wv3 y), .int .u64 (wv2 y), .int .u64 (wv1 y), .int .u64 (wv0 y)]) (T rfl rfl) rfl ?_)
 intro b6 w7 n8
 have N9 : w.heap.size ≤ b6 := n8.eq ▸ E5.size
 have : b1 < b6 := n8.eq ▸ lt_of_blk n3.blk
 have E10 := below_ext E5 E5.size n8.ext
 refine lw_e (oe_alloc ze26 ?_)
 intro b11 w12 n13
 have N14 : w.heap.size ≤ b11 := n13.eq ▸ E10.size
 have : b6 < b11 := n13.eq ▸ lt_of_blk n8.blk
 have E15 := below_ext E10 E10.size n13.ext
 refine lw_e (oe_alloc ze26 ?_)
 intro b16 w17 n18
 have N19 : w.heap.size ≤ b16 := n18.eq ▸ E15.size
 have : b11 < b16 := n18.eq ▸ lt_of_blk n13.blk
 have E20 := below_ext E15 E15.size n18.ext
 refine lw_v (.bool false) (dv_assign C) ?_
 refine lw_nil ?_
 refine rk_seq ?_
 refine rk_seq ?_
 refine rk_reg ?_
 have H21 := (n18.ext.blk (n13.ext.blk n8.blk))
 refine lw_v (.agg #[.int .u64 (wv3 y), .int .u64 (wv2 y), .int .u64 (wv1 y), .int .u64 (wv0 y)]) (dv_loads (l := [.int .u64 (wv3 y), .int .u64 (wv2 y), .int .u64 (wv1 y), .int .u64 (wv0 y)]) agt26 sz26 (T rfl rfl) H21 rfl) ?_
 refine lw_v (.agg #[.int .u64 0, .int .u64 0, .int .u64 0, .int .u64 0]) (dv_build (pv := []) (l := [.int .u64 0, .int .u64 0, .int .u64 0, .int .u64 0]) zc26 pl26 trivial rfl) ?_
 refine lw_v (.bool (decide (([wv3 y, wv2 y, wv1 y, wv0 y] : List Int) = [0, 0, 0, 0]))) (dv_eqls (k := .u64) (la := [wv3 y, wv2 y, wv1 y, wv0 y]) (lb := [0, 0, 0, 0]) fl26 eg26 (T rfl rfl) (T rfl rfl) rfl rfl) ?_
 refine lw_nil ?_
 by_cases hb22 : ([wv3 y, wv2 y, wv1 y, wv0 y] : List Int) = [0, 0, 0, 0]
 · have hz23 := (wl_zero fy_).1 hb22
   refine rk_ct (T rfl (congrArg Value.bool (decide_eq_true hb22))) ?_
   refine rk_seq ?_
   refine rk_reg ?_
   refine lw_v (.agg #[.int .u64 0, .int .u64 0, .int .u64 0, .int .u64 0]) (dv_build (pv := []) (l := [.int .u64 0, .int .u64 0, .int .u64 0, .int .u64 0]) zc26 pl26 trivial rfl) ?_
   refine lw_v (.agg #[.int .u64 0, .int .u64 0, .int .u64 0, .int .u64 0]) (dv_build (pv := []) (l := [.int .u64 0, .int .u64 0, .int .u64 0, .int .u64 0]) zc26 pl26 trivial rfl) ?_
   have H24 := (n18.ext.blk n13.blk)
   refine lw_e (oe_store (v := .agg #[.int .u64 0, .int .u64 0, .int .u64 0, .int .u64 0]) (vs := [.int .u64 0, .int .u64 0, .int .u64 0, .int .u64 0]) (l := [.int .u64 0, .int .u64 0, .int .u64 0, .int .u64 0]) (T rfl rfl) (T rfl rfl) sz26 rfl rfl rfl H24 rfl ?_)
   intro w25 s26 H27
   have E28 := below_st E20 N14 s26
   have H29 := (s26.blk n18.blk (by omega))
   refine lw_e (oe_store (v := .agg #[.int .u64 0, .int .u64 0, .int .u64 0, .int .u64 0]) (vs := [.int .u64 0, .int .u64 0, .int .u64 0, .int .u64 0]) (l := [.int .u64 0, .int .u64 0, .int .u64 0, .int .u64 0]) (T rfl rfl) (T rfl rfl) sz26 rfl rfl rfl H29 rfl ?_)
   intro w30 s31 H32
   have E33 := below_st E28 N19 s31
   refine lw_v (.bool false) (dv_assign C) ?_
   refine lw_nil ?_
   have H34 := (s31.blk H27 (by omega))
   refine rk_ret Try.func29 (v := .tuple #[.agg #[.int .u64 0, .int .u64 0, .int .u64 0, .int .u64 0], .agg #[.int .u64 0, .int .u64 0, .int .u64 0, .int .u64 0], .bool false]) (res3 Try.results29 (rv_cells (l := [.int .u64 0, .int .u64 0, .int .u64 0, .int .u64 0]) agt26 sz26 rfl rfl H34 rfl) (rv_cells (l := [.int .u64 0, .int .u64 0, .int .u64 0, .int .u64 0]) agt26 sz26 rfl rfl H32 rfl) (rv_tmp rfl rfl)) ⟨_, rfl, ?_⟩
   have hS : ¬ (dOk x y) := by intro hd; have h1 := hd.1; have h2 := hd.2.1; have h3 := hd.2.2; first | contradiction | simp_all
   exact ⟨(tu3 (ag4 (vi (wf3 hS)) (vi (wf2 hS)) (vi (wf1 hS)) (vi (wf0 hS))) (ag4 (vi (wf3 hS)) (vi (wf2 hS)) (vi (wf1 hS)) (vi (wf0 hS))) (vf hS)), E33⟩
 · have hz35 := mt (wl_zero fy_).2 hb22
   refine rk_cf (T rfl (congrArg Value.bool (decide_eq_false hb22))) ?_
   refine rk_skip ?_
   refine rk_seq ?_
   have H36 := (n18.ext.blk (n13.ext.blk (n8.ext.blk n3.blk)))
   have : b1 < w17.heap.size := lt_of_blk H36
   have : b6 < w17.heap.size := lt_of_blk H21
   have H37 := (n18.ext.blk n13.blk)
   have : b11 < w17.heap.size := lt_of_blk H37
   have : b16 < w17.heap.size := lt_of_blk n18.blk
   have : w.heap.size ≤ w17.heap.size := E20.size
   refine rk_par2 [fun vq wq_ => vq = .agg #[.int .u64 (wv3 x), .int .u64 (wv2 x), .int .u64 (wv1 x), .int .u64 (wv0 x)], fun vq wq_ => ∃ (nr52 : Bool) (A53 : Option Addr) (n54 : Nat) (c55 : Nat), vq = .agg #[.bool nr52, .slice A53 n54 c55] ∧ Num 64 24 .u64 wq_ nr52 A53 n54 c55 x 256, fun vq wq_ => vq = .agg #[.int .u64 (wv3 y), .int .u64 (wv2 y), .int .u64 (wv1 y), .int .u64 (wv0 y)], fun vq wq_ => ∃ (nr74 : Bool) (A75 : Option Addr) (n76 : Nat) (c77 : Nat), vq = .agg #[.bool nr74, .slice A75 n76 c77] ∧ Num 64 24 .u64 wq_ nr74 A75 n76 c77 y 256, fun vq wq_ => ∃ (nr100 : Bool) (A101 : Option Addr) (n102 : Nat) (c103 : Nat) (nr104 : Bool) (A105 : Option Addr) (n106 : Nat) (c107 : Nat), vq = .tuple #[.agg #[.bool nr100, .slice A101 n102 c103], .agg #[.bool nr104, .slice A105 n106 c107]] ∧ Num 64 24 .u64 wq_ nr100 A101 n102 c103 (x / y) 256 ∧ Num 64 24 .u64 wq_ nr104 A105 n106 c107 (x % y) 256, fun vq wq_ => ∃ (nr119 : Bool) (A120 : Option Addr) (n121 : Nat) (c122 : Nat) (nr123 : Bool) (A124 : Option Addr) (n125 : Nat) (c126 : Nat), vq = .tuple #[.agg #[.bool nr119, .slice A120 n121 c122], .agg #[.bool nr123, .slice A124 n125 c126]] ∧ Num 64 24 .u64 wq_ nr119 A120 n121 c122 (x / y) 256 ∧ Num 64 24 .u64 wq_ nr123 A124 n125 c126 (x % y) 256, fun vq wq_ => ∃ (nr136 : Bool) (A137 : Option Addr) (n138 : Nat) (c139 : Nat), vq = .agg #[.bool nr136, .slice A137 n138 c139] ∧ Num 64 24 .u64 wq_ nr136 A137 n138 c139 (x / y) 256, fun vq wq_ => ∃ (nr157 : Bool) (A158 : Option Addr) (n159 : Nat) (c160 : Nat), vq = .agg #[.bool nr157, .slice A158 n159 c160] ∧ Num 64 24 .u64 wq_ nr157 A158 n159 c160 (x % y) 256, fun _ _ => True, fun _ _ => True, fun _ _ => True, fun _ _ => True] [⟨8, 10, 6, 59, #[.bool false, .slice none 0 0]⟩, ⟨9, 11, 7, 59, #[.bool false, .slice none 0 0]⟩] [59] mo (by kernel_rfl) (by kernel_rfl) ?_ ?_ ?_ ?_ ?_
   · intro e he e2 he2 h; simp only [List.mem_cons, List.not_mem_nil, or_false] at he he2; rcases he with rfl | rfl <;> rcases he2 with rfl | rfl <;> first | rfl | exact absurd h (by decide)
   · exact ⟨⟨fun v w w2 e h => h, fun v w w2 b cs T fz s hb hT h => h⟩, ⟨fun v w w2 e ⟨nr52, A53, n54, c55, hv, h0_⟩ => ⟨nr52, A53, n54, c55, hv, h0_.ext e⟩, fun v w w2 b cs T fz s hb hT ⟨nr52, A53, n54, c55, hv, h0_⟩ => ⟨nr52, A53, n54, c55, hv, h0_.st s hb (ts_ne hT (by decide))⟩⟩, ⟨fun v w w2 e h => h, fun v w w2 b cs T fz s hb hT h => h⟩, ⟨fun v w w2 e ⟨nr74, A75, n76, c77, hv, h0_⟩ => ⟨nr74, A75, n76, c77, hv, h0_.ext e⟩, fun v w w2 b cs T fz s hb hT ⟨nr74, A75, n76, c77, hv, h0_⟩ => ⟨nr74, A75, n76, c77, hv, h0_.st s hb (ts_ne hT (by decide))⟩⟩, ⟨fun v w w2 e ⟨nr100, A101, n102, c103, nr104, A105, n106, c107, hv, h0_, h1_⟩ => ⟨nr100, A101, n102, c103, nr104, A105, n106, c107, hv, h0_.ext e, h1_.ext e⟩, fun v w w2 b cs T fz s hb hT ⟨nr100, A101, n102, c103, nr104, A105, n106, c107, hv, h0_, h1_⟩ => ⟨nr100, A101, n102, c103, nr104, A105, n106, c107, hv, h0_.st s hb (ts_ne hT (by decide)), h1_.st s hb (ts_ne hT (by decide))⟩⟩, ⟨fun v w w2 e ⟨nr119, A120, n121, c122, nr123, A124, n125, c126, hv, h0_, h1_⟩ => ⟨nr119, A120, n121, c122, nr123, A124, n125, c126, hv, h0_.ext e, h1_.ext e⟩, fun v w w2 b cs T fz s hb hT ⟨nr119, A120, n121, c122, nr123, A124, n125, c126, hv, h0_, h1_⟩ => ⟨nr119, A120, n121, c122, nr123, A124, n125, c126, hv, h0_.st s hb (ts_ne hT (by decide)), h1_.st s hb (ts_ne hT (by decide))⟩⟩, ⟨fun v w w2 e ⟨nr136, A137, n138, c139, hv, h0_⟩ => ⟨nr136, A137, n138, c139, hv, h0_.ext e⟩, fun v w w2 b cs T fz s hb hT ⟨nr136, A137, n138, c139, hv, h0_⟩ => ⟨nr136, A137, n138, c139, hv, h0_.st s hb (ts_ne hT (by decide))⟩⟩, ⟨fun v w w2 e ⟨nr157, A158, n159, c160, hv, h0_⟩ => ⟨nr157, A158, n159, c160, hv, h0_.ext e⟩, fun v w w2 b cs T fz s hb hT ⟨nr157, A158, n159, c160, hv, h0_⟩ => ⟨nr157, A158, n159, c160, hv, h0_.st s hb (ts_ne hT (by decide))⟩⟩, ⟨fun v w w2 e h => h, fun v w w2 b cs T fz s hb hT h => h⟩, ⟨fun v w w2 e h => h, fun v w w2 b cs T fz s hb hT h => h⟩, ⟨fun v w w2 e h => h, fun v w w2 b cs T fz s hb hT h => h⟩, ⟨fun v w w2 e h => h, fun v w w2 b cs T fz s hb hT h => h⟩, trivial⟩
   · refine ⟨?_, ?_, ?_, ?_, ?_, ?_, ?_, ?_, ?_, ?_, ?_, ?_, trivial⟩
     · refine .inr ⟨by kernel_rfl, ?_⟩
       intro fr39 w38 e40 hF41 hD42
       have E43 := below_ext E20 E20.size e40
       have H44 := (e40.blk H36)
       exact DV.oe (dv_loads (l := [.int .u64 (wv3 x), .int .u64 (wv2 x), .int .u64 (wv1 x), .int .u64 (wv0 x)]) agt26 sz26 (T rfl (hF41 2 (by kernel_rfl))) H44 rfl) ⟨Below.refl _ _, rfl⟩
     · refine .inr ⟨by kernel_rfl, ?_⟩
       intro fr46 w45 e47 hF48 hD49
       have E50 := below_ext E20 E20.size e47
       have hv51 : fr46 19 = .agg #[.int .u64 (wv3 x), .int .u64 (wv2 x), .int .u64 (wv1 x), .int .u64 (wv0 x)] := hD49 0 _ (by kernel_rfl) rfl (by kernel_rfl)
       refine id (oe_callf (vs := [.agg #[.int .u64 (wv3 x), .int .u64 (wv2 x), .int .u64 (wv1 x), .int .u64 (wv0 x)]]) co46 (ar1 (T rfl hv51)) (wnumz_ok (z := x) fx_) ?_)
       rintro _ w57 ⟨nr52, A53, n54, c55, rfl, e58, h56⟩
       have E59 := below_ext E50 E50.size e58
       have lh56 := Num.len (by decide) h56
       exact ⟨e58, nr52, A53, n54, c55, rfl, h56⟩
     · refine .inr ⟨by kernel_rfl, ?_⟩
       intro fr61 w60 e62 hF63 hD64
       have E65 := below_ext E20 E20.size e62
       have H66 := (e62.blk H21)
       exact DV.oe (dv_loads (l := [.int .u64 (wv3 y), .int .u64 (wv2 y), .int .u64 (wv1 y), .int .u64 (wv0 y)]) agt26 sz26 (T rfl (hF63 3 (by kernel_rfl))) H66 rfl) ⟨Below.refl _ _, rfl⟩
     · refine .inr ⟨by kernel_rfl, ?_⟩
       intro fr68 w67 e69 hF70 hD71
       have E72 := below_ext E20 E20.size e69
       have hv73 : fr68 21 = .agg #[.int .u64 (wv3 y), .int .u64 (wv2 y), .int .u64 (wv1 y), .int .u64 (wv0 y)] := hD71 2 _ (by kernel_rfl) rfl (by kernel_rfl)
       refine id (oe_callf (vs := [.agg #[.int .u64 (wv3 y), .int .u64 (wv2 y), .int .u64 (wv1 y), .int .u64 (wv0 y)]]) co46 (ar1 (T rfl hv73)) (wnumz_ok (z := y) fy_) ?_)
       rintro _ w79 ⟨nr74, A75, n76, c77, rfl, e80, h78⟩
       have E81 := below_ext E72 E72.size e80
       have lh78 := Num.len (by decide) h78
       exact ⟨e80, nr74, A75, n76, c77, rfl, h78⟩
     · refine .inr ⟨by kernel_rfl, ?_⟩
       intro fr83 w82 e84 hF85 hD86
       have E87 := below_ext E20 E20.size e84
       obtain ⟨nr88, A89, n90, c91, hv92, hp93⟩ : ∃ (nr52 : Bool) (A53 : Option Addr) (n54 : Nat) (c55 : Nat), fr83 20 = .agg #[.bool nr52, .slice A53 n54 c55] ∧ Num 64 24 .u64 w82 nr52 A53 n54 c55 x 256 := hD86 1 _ (by kernel_rfl) rfl (by kernel_rfl)
       have lhp93 := Num.len (by decide) hp93
       obtain ⟨nr94, A95, n96, c97, hv98, hp99⟩ : ∃ (nr74 : Bool) (A75 : Option Addr) (n76 : Nat) (c77 : Nat), fr83 22 = .agg #[.bool nr74, .slice A75 n76 c77] ∧ Num 64 24 .u64 w82 nr74 A75 n76 c77 y 256 := hD86 3 _ (by kernel_rfl) rfl (by kernel_rfl)
       have lhp99 := Num.len (by decide) hp99
       refine id (oe_callf (vs := [.agg #[.bool nr88, .slice A89 n90 c91], .agg #[.bool nr94, .slice A95 n96 c97]]) co65 (ar2 (T rfl hv92) (T rfl hv98)) (over_ok hp93 hp99 (by omega) (by first | decide | omega) (by first | decide | omega)) ?_)
       rintro _ w110 ⟨nr100, A101, n102, c103, nr104, A105, n106, c107, rfl, e111, h108, h109⟩
       have E112 := below_ext E87 E87.size e111
       have lh108 := Num.len (by decide) h108
       have lh109 := Num.len (by decide) h109
       exact ⟨e111, nr100, A101, n102, c103, nr104, A105, n106, c107, rfl, h108, h109⟩
     · refine .inr ⟨by kernel_rfl, ?_⟩
       intro fr114 w113 e115 hF116 hD117
       have E118 := below_ext E20 E20.size e115
       obtain ⟨nr119, A120, n121, c122, nr123, A124, n125, c126, hv127, hp128, hp129⟩ : ∃ (nr100 : Bool) (A101 : Option Addr) (n102 : Nat) (c103 : Nat) (nr104 : Bool) (A105 : Option Addr) (n106 : Nat) (c107 : Nat), fr114 23 = .tuple #[.agg #[.bool nr100, .slice A101 n102 c103], .agg #[.bool nr104, .slice A105 n106 c107]] ∧ Num 64 24 .u64 w113 nr100 A101 n102 c103 (x / y) 256 ∧ Num 64 24 .u64 w113 nr104 A105 n106 c107 (x % y) 256 := hD117 4 _ (by kernel_rfl) rfl (by kernel_rfl)
       have lhp128 := Num.len (by decide) hp128
       have lhp129 := Num.len (by decide) hp129
       exact DV.oe (dv_move (T rfl hv127)) ⟨Below.refl _ _, nr119, A120, n121, c122, nr123, A124, n125, c126, rfl, hp128, hp129⟩
     · refine .inr ⟨by kernel_rfl, ?_⟩
       intro fr131 w130 e132 hF133 hD134
       have E135 := below_ext E20 E20.size e132
       obtain ⟨nr136, A137, n138, c139, nr140, A141, n142, c143, hv144, hp145, hp146⟩ : ∃ (nr119 : Bool) (A120 : Option Addr) (n121 : Nat) (c122 : Nat) (nr123 : Bool) (A124 : Option Addr) (n125 : Nat) (c126 : Nat), fr131 18 = .tuple #[.agg #[.bool nr119, .slice A120 n121 c122], .agg #[.bool nr123, .slice A124 n125 c126]] ∧ Num 64 24 .u64 w130 nr119 A120 n121 c122 (x / y) 256 ∧ Num 64 24 .u64 w130 nr123 A124 n125 c126 (x % y) 256 := hD134 5 _ (by kernel_rfl) rfl (by kernel_rfl)
       have lhp145 := Num.len (by decide) hp145
       have lhp146 := Num.len (by decide) hp146
       exact DV.oe (dv_extract (vs := #[.agg #[.bool nr136, .slice A137 n138 c139], .agg #[.bool nr140, .slice A141 n142 c143]]) (T rfl hv144) rfl) ⟨Below.refl _ _, nr136, A137, n138, c139, rfl, hp145⟩
     · refine .inr ⟨by kernel_rfl, ?_⟩
       intro fr148 w147 e149 hF150 hD151
       have E152 := below_ext E20 E20.size e149
       obtain ⟨nr153, A154, n155, c156, nr157, A158, n159, c160, hv161, hp162, hp163⟩ : ∃ (nr119 : Bool) (A120 : Option Addr) (n121 : Nat) (c122 : Nat) (nr123 : Bool) (A124 : Option Addr) (n125 : Nat) (c126 : Nat), fr148 18 = .tuple #[.agg #[.bool nr119, .slice A120 n121 c122], .agg #[.bool nr123, .slice A124 n125 c126]] ∧ Num 64 24 .u64 w147 nr119 A120 n121 c122 (x / y) 256 ∧ Num 64 24 .u64 w147 nr123 A124 n125 c126 (x % y) 256 := hD151 5 _ (by kernel_rfl) rfl (by kernel_rfl)
       have lhp162 := Num.len (by decide) hp162
       have lhp163 := Num.len (by decide) hp163
       exact DV.oe (dv_extract (vs := #[.agg #[.bool nr153, .slice A154 n155 c156], .agg #[.bool nr157, .slice A158 n159 c160]]) (T rfl hv161) rfl) ⟨Below.refl _ _, nr157, A158, n159, c160, rfl, hp163⟩
     · exact .inl (.inr ⟨by kernel_rfl, fun _ _ => trivial⟩)
     · exact .inl (.inr ⟨by kernel_rfl, fun _ _ => trivial⟩)
     · exact .inl (.inl (by kernel_rfl))
     · exact .inl (.inl (by kernel_rfl))
   · refine ⟨⟨⟨_, rfl, fun _ _ => oe_alloc ze59 fun b w hn => ⟨b, rfl, hn⟩⟩, ⟨_, rfl, ?_⟩⟩, ⟨⟨_, rfl, fun _ _ => oe_alloc ze59 fun b w hn => ⟨b, rfl, hn⟩⟩, ⟨_, rfl, ?_⟩⟩, trivial⟩
     · intro fr165 w164 b169 e166 hF167 hD168 hA170 hB171
       have E172 := below_ext E20 E20.size e166
       obtain ⟨nr173, A174, n175, c176, hv177, hp178⟩ : ∃ (nr136 : Bool) (A137 : Option Addr) (n138 : Nat) (c139 : Nat), fr165 24 = .agg #[.bool nr136, .slice A137 n138 c139] ∧ Num 64 24 .u64 w164 nr136 A137 n138 c139 (x / y) 256 := hD168 6 _ (by kernel_rfl) rfl (by kernel_rfl)
       have lhp178 := Num.len (by decide) hp178
       refine id (oe_store (v := .agg #[.bool nr173, .slice A174 n175 c176]) (vs := [.bool nr173, .slice A174 n175 c176]) (l := [.bool nr173, .slice A174 n175 c176]) (T rfl hA170) (T rfl hv177) sz59 rfl rfl rfl hB171 rfl ?_)
       intro w179 s180 H181
       exact ⟨s180, H181.trans (congrArg (fun v : Value => some (Obj.cells v.cells 59)) (show fr165 24 = _ from hv177).symm)⟩
     · intro fr184 w183 b188 e185 hF186 hD187 hA189 hB190
       have E191 := below_ext E20 E20.size e185
       obtain ⟨nr192, A193, n194, c195, hv196, hp197⟩ : ∃ (nr157 : Bool) (A158 : Option Addr) (n159 : Nat) (c160 : Nat), fr184 25 = .agg #[.bool nr157, .slice A158 n159 c160] ∧ Num 64 24 .u64 w183 nr157 A158 n159 c160 (x % y) 256 := hD187 7 _ (by kernel_rfl) rfl (by kernel_rfl)
       have lhp197 := Num.len (by decide) hp197
       refine id (oe_store (v := .agg #[.bool nr192, .slice A193 n194 c195]) (vs := [.bool nr192, .slice A193 n194 c195]) (l := [.bool nr192, .slice A193 n194 c195]) (T rfl hA189) (T rfl hv196) sz59 rfl rfl rfl hB190 rfl ?_)
       intro w198 s199 H200
       exact ⟨s199, H200.trans (congrArg (fun v : Value => some (Obj.cells v.cells 59)) (show fr184 25 = _ from hv196).symm)⟩
   intro fr203 w202 e204 hF205 hP206 hM207 hN208
   have E209 := below_ext E20 E20.size e204
   obtain ⟨_, _, _, _, _, _, p210, p211, _, _, _, _, _⟩ := hP206
   obtain ⟨nr212, A213, n214, c215, hv216, hp217⟩ : ∃ (nr136 : Bool) (A137 : Option Addr) (n138 : Nat) (c139 : Nat), fr203 24 = .agg #[.bool nr136, .slice A137 n138 c139] ∧ Num 64 24 .u64 w202 nr136 A137 n138 c139 (x / y) 256 := p210.resolve_left (nst (by kernel_rfl))
   have lhp217 := Num.len (by decide) hp217
   obtain ⟨nr218, A219, n220, c221, hv222, hp223⟩ : ∃ (nr157 : Bool) (A158 : Option Addr) (n159 : Nat) (c160 : Nat), fr203 25 = .agg #[.bool nr157, .slice A158 n159 c160] ∧ Num 64 24 .u64 w202 nr157 A158 n159 c160 (x % y) 256 := p211.resolve_left (nst (by kernel_rfl))
   have lhp223 := Num.len (by decide) hp223
   obtain ⟨⟨b224, hA225, hB226, hC227⟩, ⟨b228, hA229, hB230, hC231⟩, _⟩ := hM207
   have H232 : w202.heap[b224]? = some (.cells #[.bool nr212, .slice A213 n214 c215] 59) := hC227.trans (congrArg (fun v : Value => some (Obj.cells v.cells 59)) hv216)
   have N233 : w.heap.size ≤ b224 := by omega
   have H234 : w202.heap[b228]? = some (.cells #[.bool nr218, .slice A219 n220 c221] 59) := hC231.trans (congrArg (fun v : Value => some (Obj.cells v.cells 59)) hv222)
   have N235 : w.heap.size ≤ b228 := by omega
   have : b228 ≠ b224 := fun hh => hN208 _ (.tail _ (.head _)) _ (.head _) (by decide) (hA229.trans ((congrArg (fun q => Value.pointer (some ⟨q, 0, none⟩)) hh).trans hA225.symm))
   refine rk_seq ?_
   refine rk_reg ?_
   refine lw_v (.agg #[.bool nr212, .slice A213 n214 c215]) (dv_loads (l := [.bool nr212, .slice A213 n214 c215]) agt59 sz59 (T rfl hA225) H232 rfl) ?_
   refine lw_e (oe_callf (vs := [.agg #[.bool nr212, .slice A213 n214 c215]]) co51 (ar1 (T rfl rfl)) (nwide_ok hp217 (by first | decide | omega)) ?_)
   rintro _ w237 ⟨rfl, e238⟩
   have E239 := below_ext E209 E209.size e238
   have bw236 := w_rg (x / y)
   refine lw_v (.tuple #[.agg #[.int .u64 (wv3 (x / y)), .int .u64 (wv2 (x / y)), .int .u64 (wv1 (x / y)), .int .u64 (wv0 (x / y))], .bool (decide (fits (x / y)))]) (dv_move (T rfl rfl)) ?_
   refine lw_v (.agg #[.int .u64 (wv3 (x / y)), .int .u64 (wv2 (x / y)), .int .u64 (wv1 (x / y)), .int .u64 (wv0 (x / y))]) (dv_extract (vs := #[.agg #[.int .u64 (wv3 (x / y)), .int .u64 (wv2 (x / y)), .int .u64 (wv1 (x / y)), .int .u64 (wv0 (x / y))], .bool (decide (fits (x / y)))]) (T rfl rfl) rfl) ?_
   refine lw_v (.bool (decide (fits (x / y)))) (dv_extract (vs := #[.agg #[.int .u64 (wv3 (x / y)), .int .u64 (wv2 (x / y)), .int .u64 (wv1 (x / y)), .int .u64 (wv0 (x / y))], .bool (decide (fits (x / y)))]) (T rfl rfl) rfl) ?_
   refine lw_e (oe_alloc ze26 ?_)
   intro b240 w241 n242
   have N243 : w.heap.size ≤ b240 := n242.eq ▸ E239.size
   have H244 := (e238.blk (e204.blk H36))
   have : b1 < b240 := n242.eq ▸ lt_of_blk H244
   have H245 := (e238.blk (e204.blk H21))
   have : b6 < b240 := n242.eq ▸ lt_of_blk H245
   have H246 := (e238.blk (e204.blk H37))
   have : b11 < b240 := n242.eq ▸ lt_of_blk H246
   have H247 := (e238.blk (e204.blk n18.blk))
   have : b16 < b240 := n242.eq ▸ lt_of_blk H247
   have H248 := (e238.blk H232)
   have : b224 < b240 := n242.eq ▸ lt_of_blk H248
   have H249 := (e238.blk H234)
   have : b228 < b240 := n242.eq ▸ lt_of_blk H249
   have E250 := below_ext E239 E239.size n242.ext
   refine lw_e (oe_store (v := .agg #[.int .u64 (wv3 (x / y)), .int .u64 (wv2 (x / y)), .int .u64 (wv1 (x / y)), .int .u64 (wv0 (x / y))]) (vs := [.int .u64 (wv3 (x / y)), .int .u64 (wv2 (x / y)), .int .u64 (wv1 (x / y)), .int .u64 (wv0 (x / y))]) (l := [.int .u64 (wv3 (x / y)), .int .u64 (wv2 (x / y)), .int .u64 (wv1 (x / y)), .int .u64 (wv0 (x / y))]) (T rfl rfl) (T rfl rfl) sz26 rfl rfl rfl n242.blk rfl ?_)
   intro w251 s252 H253
   have E254 := below_st E250 N243 s252
   refine lw_v (.bool (decide (fits (x / y)))) (dv_assign (T rfl rfl)) ?_
   refine lw_nil ?_
   refine rk_seq ?_
   refine rk_reg ?_
   have H255 := (s252.blk (n242.ext.blk H249) (by omega))
   refine lw_v (.agg #[.bool nr218, .slice A219 n220 c221]) (dv_loads (l := [.bool nr218, .slice A219 n220 c221]) agt59 sz59 (T rfl hA229) H255 rfl) ?_
   have h256 := (((hp223.ext e238).ext n242.ext).st s252 n242.blk (by decide))
   refine lw_e (oe_callf (vs := [.agg #[.bool nr218, .slice A219 n220 c221]]) co51 (ar1 (T rfl rfl)) (nwide_ok h256 (by first | decide | omega)) ?_)
   rintro _ w258 ⟨rfl, e259⟩
   have E260 := below_ext E254 E254.size e259
   have bw257 := w_rg (x % y)
   refine lw_v (.tuple #[.agg #[.int .u64 (wv3 (x % y)), .int .u64 (wv2 (x % y)), .int .u64 (wv1 (x % y)), .int .u64 (wv0 (x % y))], .bool (decide (fits (x % y)))]) (dv_move (T rfl rfl)) ?_
   refine lw_v (.agg #[.int .u64 (wv3 (x % y)), .int .u64 (wv2 (x % y)), .int .u64 (wv1 (x % y)), .int .u64 (wv0 (x % y))]) (dv_extract (vs := #[.agg #[.int .u64 (wv3 (x % y)), .int .u64 (wv2 (x % y)), .int .u64 (wv1 (x % y)), .int .u64 (wv0 (x % y))], .bool (decide (fits (x % y)))]) (T rfl rfl) rfl) ?_
   refine lw_v (.bool (decide (fits (x % y)))) (dv_extract (vs := #[.agg #[.int .u64 (wv3 (x % y)), .int .u64 (wv2 (x % y)), .int .u64 (wv1 (x % y)), .int .u64 (wv0 (x % y))], .bool (decide (fits (x % y)))]) (T rfl rfl) rfl) ?_
   refine lw_e (oe_alloc ze26 ?_)
   intro b261 w262 n263
   have N264 : w.heap.size ≤ b261 := n263.eq ▸ E260.size
   have H265 := (e259.blk (s252.blk (n242.ext.blk H244) (by omega)))
   have : b1 < b261 := n263.eq ▸ lt_of_blk H265
   have H266 := (e259.blk (s252.blk (n242.ext.blk H245) (by omega)))
   have : b6 < b261 := n263.eq ▸ lt_of_blk H266
   have H267 := (e259.blk (s252.blk (n242.ext.blk H246) (by omega)))
   have : b11 < b261 := n263.eq ▸ lt_of_blk H267
   have H268 := (e259.blk (s252.blk (n242.ext.blk H247) (by omega)))
   have : b16 < b261 := n263.eq ▸ lt_of_blk H268
   have H269 := (e259.blk (s252.blk (n242.ext.blk H248) (by omega)))
   have : b224 < b261 := n263.eq ▸ lt_of_blk H269
   have H270 := (e259.blk H255)
   have : b228 < b261 := n263.eq ▸ lt_of_blk H270
   have H271 := (e259.blk H253)
   have : b240 < b261 := n263.eq ▸ lt_of_blk H271
   have E272 := below_ext E260 E260.size n263.ext
   refine lw_e (oe_store (v := .agg #[.int .u64 (wv3 (x % y)), .int .u64 (wv2 (x % y)), .int .u64 (wv1 (x % y)), .int .u64 (wv0 (x % y))]) (vs := [.int .u64 (wv3 (x % y)), .int .u64 (wv2 (x % y)), .int .u64 (wv1 (x % y)), .int .u64 (wv0 (x % y))]) (l := [.int .u64 (wv3 (x % y)), .int .u64 (wv2 (x % y)), .int .u64 (wv1 (x % y)), .int .u64 (wv0 (x % y))]) (T rfl rfl) (T rfl rfl) sz26 rfl rfl rfl n263.blk rfl ?_)
   intro w273 s274 H275
   have E276 := below_st E272 N264 s274
   refine lw_v (.bool (decide (fits (x % y)))) (dv_assign (T rfl rfl)) ?_
   refine lw_nil ?_
   refine rk_seq ?_
   refine rk_seq ?_
   refine rk_reg ?_
   refine lw_v (.bool (decide (fits (x / y)))) (dv_move (T rfl rfl)) ?_
   refine lw_v (.bool (decide (¬ (fits (x / y))))) (dv_notd (p := fits (x / y)) (T rfl rfl)) ?_
   refine lw_v (.bool (decide (¬ (fits (x / y))))) (dv_move (T rfl rfl)) ?_
   by_cases hb277 : fits (x / y)
   · refine lw_vy (.bool (decide (fits (x % y)))) (d := 38) rfl rfl (congrArg Value.bool (decide_eq_false (not_not_intro hb277))) (dv_move (T rfl rfl)) ?_
     refine lw_vy (.bool (decide (¬ (fits (x % y))))) (d := 38) rfl rfl (congrArg Value.bool (decide_eq_false (not_not_intro hb277))) (dv_notd (p := fits (x % y)) (T rfl rfl)) ?_
     refine lw_v (.bool (decide (¬ (fits (x % y))))) (dv_pick_f (T rfl (congrArg Value.bool (decide_eq_false (not_not_intro hb277)))) (T rfl rfl)) ?_
     refine lw_nil ?_
     by_cases hb278 : fits (x % y)
     · refine rk_cf (T rfl (congrArg Value.bool (decide_eq_false (not_not_intro hb278)))) ?_
       refine rk_skip ?_
       refine rk_seq ?_
       refine rk_any (fun w => w.heap[b240]? = some (.cells #[.int .u64 (wv3 (x / y)), .int .u64 (wv2 (x / y)), .int .u64 (wv1 (x / y)), .int .u64 (wv0 (x / y))] 26) ∧ w.heap[b261]? = some (.cells #[.int .u64 (wv3 (x % y)), .int .u64 (wv2 (x % y)), .int .u64 (wv1 (x % y)), .int .u64 (wv0 (x % y))] 26)) [4] mo ?_
       intro w279 d280
       have E281 := below_ext E276 E276.size d280.ext
       have H282 := (d280.ext.blk (s274.blk (n263.ext.blk H271) (by omega)))
       have H283 := (d280.ext.blk H275)
       refine aw_load 0 (.agg #[.int .u64 (wv3 (x / y)), .int .u64 (wv2 (x / y)), .int .u64 (wv1 (x / y)), .int .u64 (wv0 (x / y))]) rfl (by kernel_rfl) .none ⟨H282, H283⟩ (fun _ s => dv_loads (l := [.int .u64 (wv3 (x / y)), .int .u64 (wv2 (x / y)), .int .u64 (wv1 (x / y)), .int .u64 (wv0 (x / y))]) agt26 sz26 (T rfl rfl) s.1 rfl) ?_
       refine aw_load 1 (.agg #[.int .u64 (wv3 (x % y)), .int .u64 (wv2 (x % y)), .int .u64 (wv1 (x % y)), .int .u64 (wv0 (x % y))]) rfl (by kernel_rfl) .none ⟨H282, H283⟩ (fun _ s => dv_loads (l := [.int .u64 (wv3 (x % y)), .int .u64 (wv2 (x % y)), .int .u64 (wv1 (x % y)), .int .u64 (wv0 (x % y))]) agt26 sz26 (T rfl rfl) s.2 rfl) ?_
       have H284 := (d280.ext.blk (s274.blk (n263.ext.blk H267) (by omega)))
       refine aw_one 2 rfl (by kernel_rfl) .none (oe_store (v := .agg #[.int .u64 (wv3 (x / y)), .int .u64 (wv2 (x / y)), .int .u64 (wv1 (x / y)), .int .u64 (wv0 (x / y))]) (vs := [.int .u64 (wv3 (x / y)), .int .u64 (wv2 (x / y)), .int .u64 (wv1 (x / y)), .int .u64 (wv0 (x / y))]) (l := [.int .u64 (wv3 (x / y)), .int .u64 (wv2 (x / y)), .int .u64 (wv1 (x / y)), .int .u64 (wv0 (x / y))]) (T rfl (hF205 4 rfl)) (T rfl rfl) sz26 rfl rfl rfl H284 rfl ?_)
       intro w285 s286 H287
       have E288 := below_st E281 N14 s286
       have H289 := (s286.blk H282 (by omega))
       have H290 := (s286.blk H283 (by omega))
       refine ⟨.inr ⟨H289, H290⟩, ?_⟩
       have H291 := (s286.blk (d280.ext.blk (s274.blk (n263.ext.blk H268) (by omega))) (by omega))
       refine aw_one 3 rfl (by kernel_rfl) .none (oe_store (v := .agg #[.int .u64 (wv3 (x % y)), .int .u64 (wv2 (x % y)), .int .u64 (wv1 (x % y)), .int .u64 (wv0 (x % y))]) (vs := [.int .u64 (wv3 (x % y)), .int .u64 (wv2 (x % y)), .int .u64 (wv1 (x % y)), .int .u64 (wv0 (x % y))]) (l := [.int .u64 (wv3 (x % y)), .int .u64 (wv2 (x % y)), .int .u64 (wv1 (x % y)), .int .u64 (wv0 (x % y))]) (T rfl (hF205 5 rfl)) (T rfl rfl) sz26 rfl rfl rfl H291 rfl ?_)
       intro w292 s293 H294
       have E295 := below_st E288 N19 s293
       have H296 := (s293.blk H289 (by omega))
       have H297 := (s293.blk H290 (by omega))
       refine ⟨.inr ⟨H296, H297⟩, ?_⟩
       refine aw_last 4 (.bool true) rfl (by kernel_rfl) .none (fun _ => dv_assign C) ?_
       refine aw_done (by kernel_rfl) ?_
       have H298 := (s293.blk H287 (by omega))
       refine rk_ret Try.func29 (v := .tuple #[.agg #[.int .u64 (wv3 (x / y)), .int .u64 (wv2 (x / y)), .int .u64 (wv1 (x / y)), .int .u64 (wv0 (x / y))], .agg #[.int .u64 (wv3 (x % y)), .int .u64 (wv2 (x % y)), .int .u64 (wv1 (x % y)), .int .u64 (wv0 (x % y))], .bool true]) (res3 Try.results29 (rv_cells (l := [.int .u64 (wv3 (x / y)), .int .u64 (wv2 (x / y)), .int .u64 (wv1 (x / y)), .int .u64 (wv0 (x / y))]) agt26 sz26 rfl (hF205 4 rfl) H298 rfl) (rv_cells (l := [.int .u64 (wv3 (x % y)), .int .u64 (wv2 (x % y)), .int .u64 (wv1 (x % y)), .int .u64 (wv0 (x % y))]) agt26 sz26 rfl (hF205 5 rfl) H294 rfl) (rv_tmp rfl rfl)) ⟨_, rfl, ?_⟩
       have hS : dOk x y := by exact ⟨by assumption, by first | assumption | simpa using ‹_›, by first | assumption | simpa using ‹_›⟩
       exact ⟨(tu3 (ag4 (vi (by rw [pkz_t hS])) (vi (by rw [pkz_t hS])) (vi (by rw [pkz_t hS])) (vi (by rw [pkz_t hS]))) (ag4 (vi (by rw [pkz_t hS])) (vi (by rw [pkz_t hS])) (vi (by rw [pkz_t hS])) (vi (by rw [pkz_t hS]))) (vt hS)), E295⟩
     · refine rk_ct (T rfl (congrArg Value.bool (decide_eq_true hb278))) ?_
       refine rk_seq ?_
       refine rk_reg ?_
       refine lw_v (.agg #[.int .u64 0, .int .u64 0, .int .u64 0, .int .u64 0]) (dv_build (pv := []) (l := [.int .u64 0, .int .u64 0, .int .u64 0, .int .u64 0]) zc26 pl26 trivial rfl) ?_
       refine lw_v (.agg #[.int .u64 0, .int .u64 0, .int .u64 0, .int .u64 0]) (dv_build (pv := []) (l := [.int .u64 0, .int .u64 0, .int .u64 0, .int .u64 0]) zc26 pl26 trivial rfl) ?_
       have H299 := (s274.blk (n263.ext.blk H267) (by omega))
       refine lw_e (oe_store (v := .agg #[.int .u64 0, .int .u64 0, .int .u64 0, .int .u64 0]) (vs := [.int .u64 0, .int .u64 0, .int .u64 0, .int .u64 0]) (l := [.int .u64 0, .int .u64 0, .int .u64 0, .int .u64 0]) (T rfl (hF205 4 rfl)) (T rfl rfl) sz26 rfl rfl rfl H299 rfl ?_)
       intro w300 s301 H302
       have E303 := below_st E276 N14 s301
       have H304 := (s301.blk (s274.blk (n263.ext.blk H268) (by omega)) (by omega))
       refine lw_e (oe_store (v := .agg #[.int .u64 0, .int .u64 0, .int .u64 0, .int .u64 0]) (vs := [.int .u64 0, .int .u64 0, .int .u64 0, .int .u64 0]) (l := [.int .u64 0, .int .u64 0, .int .u64 0, .int .u64 0]) (T rfl (hF205 5 rfl)) (T rfl rfl) sz26 rfl rfl rfl H304 rfl ?_)
       intro w305 s306 H307
       have E308 := below_st E303 N19 s306
       refine lw_v (.bool false) (dv_assign C) ?_
       refine lw_nil ?_
       have H309 := (s306.blk H302 (by omega))
       refine rk_ret Try.func29 (v := .tuple #[.agg #[.int .u64 0, .int .u64 0, .int .u64 0, .int .u64 0], .agg #[.int .u64 0, .int .u64 0, .int .u64 0, .int .u64 0], .bool false]) (res3 Try.results29 (rv_cells (l := [.int .u64 0, .int .u64 0, .int .u64 0, .int .u64 0]) agt26 sz26 rfl (hF205 4 rfl) H309 rfl) (rv_cells (l := [.int .u64 0, .int .u64 0, .int .u64 0, .int .u64 0]) agt26 sz26 rfl (hF205 5 rfl) H307 rfl) (rv_tmp rfl rfl)) ⟨_, rfl, ?_⟩
       have hS : ¬ (dOk x y) := by intro hd; have h1 := hd.1; have h2 := hd.2.1; have h3 := hd.2.2; first | contradiction | simp_all
       exact ⟨(tu3 (ag4 (vi (wf3 hS)) (vi (wf2 hS)) (vi (wf1 hS)) (vi (wf0 hS))) (ag4 (vi (wf3 hS)) (vi (wf2 hS)) (vi (wf1 hS)) (vi (wf0 hS))) (vf hS)), E308⟩
   · refine lw_no (d := 38) rfl rfl (congrArg Value.bool (decide_eq_true hb277)) ?_
     refine lw_no (d := 38) rfl rfl (congrArg Value.bool (decide_eq_true hb277)) ?_
     refine lw_v (.bool true) (dv_pick_t (T rfl (congrArg Value.bool (decide_eq_true hb277))) C) ?_
     refine lw_nil ?_
     refine rk_ct (T rfl rfl) ?_
     refine rk_seq ?_
     refine rk_reg ?_
     refine lw_v (.agg #[.int .u64 0, .int .u64 0, .int .u64 0, .int .u64 0]) (dv_build (pv := []) (l := [.int .u64 0, .int .u64 0, .int .u64 0, .int .u64 0]) zc26 pl26 trivial rfl) ?_
     refine lw_v (.agg #[.int .u64 0, .int .u64 0, .int .u64 0, .int .u64 0]) (dv_build (pv := []) (l := [.int .u64 0, .int .u64 0, .int .u64 0, .int .u64 0]) zc26 pl26 trivial rfl) ?_
     have H310 := (s274.blk (n263.ext.blk H267) (by omega))
     refine lw_e (oe_store (v := .agg #[.int .u64 0, .int .u64 0, .int .u64 0, .int .u64 0]) (vs := [.int .u64 0, .int .u64 0, .int .u64 0, .int .u64 0]) (l := [.int .u64 0, .int .u64 0, .int .u64 0, .int .u64 0]) (T rfl (hF205 4 rfl)) (T rfl rfl) sz26 rfl rfl rfl H310 rfl ?_)
     intro w311 s312 H313
     have E314 := below_st E276 N14 s312
     have H315 := (s312.blk (s274.blk (n263.ext.blk H268) (by omega)) (by omega))
     refine lw_e (oe_store (v := .agg #[.int .u64 0, .int .u64 0, .int .u64 0, .int .u64 0]) (vs := [.int .u64 0, .int .u64 0, .int .u64 0, .int .u64 0]) (l := [.int .u64 0, .int .u64 0, .int .u64 0, .int .u64 0]) (T rfl (hF205 5 rfl)) (T rfl rfl) sz26 rfl rfl rfl H315 rfl ?_)
     intro w316 s317 H318
     have E319 := below_st E314 N19 s317
     refine lw_v (.bool false) (dv_assign C) ?_
     refine lw_nil ?_
     have H320 := (s317.blk H313 (by omega))
     refine rk_ret Try.func29 (v := .tuple #[.agg #[.int .u64 0, .int .u64 0, .int .u64 0, .int .u64 0], .agg #[.int .u64 0, .int .u64 0, .int .u64 0, .int .u64 0], .bool false]) (res3 Try.results29 (rv_cells (l := [.int .u64 0, .int .u64 0, .int .u64 0, .int .u64 0]) agt26 sz26 rfl (hF205 4 rfl) H320 rfl) (rv_cells (l := [.int .u64 0, .int .u64 0, .int .u64 0, .int .u64 0]) agt26 sz26 rfl (hF205 5 rfl) H318 rfl) (rv_tmp rfl rfl)) ⟨_, rfl, ?_⟩
     have hS : ¬ (dOk x y) := by intro hd; have h1 := hd.1; have h2 := hd.2.1; have h3 := hd.2.2; first | contradiction | simp_all
     exact ⟨(tu3 (ag4 (vi (wf3 hS)) (vi (wf2 hS)) (vi (wf1 hS)) (vi (wf0 hS))) (ag4 (vi (wf3 hS)) (vi (wf2 hS)) (vi (wf1 hS)) (vi (wf0 hS))) (vf hS)), E319⟩
set_option maxHeartbeats 1000000 in
theorem sWideGcd_ok {w : World} {x y : Int} (fx_ : fits x) (fy_ : fits y)  : Ct Try.prog 28 [.agg #[.int .u64 (wv3 x), .int .u64 (wv2 x), .int .u64 (wv1 x), .int .u64 (wv0 x)], .agg #[.int .u64 (wv3 y), .int .u64 (wv2 y), .int .u64 (wv1 y), .int .u64 (wv0 y)]] w fun v w1 => v = .tuple #[.agg #[.int .u64 (wv3 (pkz (fits (gI x y)) (gI x y))), .int .u64 (wv2 (pkz (fits (gI x y)) (gI x y))), .int .u64 (wv1 (pkz (fits (gI x y)) (gI x y))), .int .u64 (wv0 (pkz (fits (gI x y)) (gI x y)))], .bool (decide (fits (gI x y)))] ∧ Ext w w1 := by
 refine ct_run (n := 14) Try.func28 rfl Try.ntmps28 rfl ?_
 have E0 : Below w.heap.size w w := Below.refl _ _
 refine rk_seq ?_
 refine rk_reg ?_
 refine lw_e (oe_box (v := .agg #[.int .u64 (wv3 x), .int .u64 (wv2 x), .int .u64 (wv1 x), .int .u64 (wv0 x)]) (cs := #[.int .u64 (wv3 x), .int .u64 (wv2 x), .int .u64 (wv1 x), .int .u64 (wv0 x)]) (T rfl rfl) rfl ?_)
 intro b1 w2 n3
 have N4 : w.heap.size ≤ b1 := n3.eq ▸ E0.size
 have E5 := below_ext E0 E0.size n3.ext
 refine lw_e (oe_box (v := .agg #[.int .u64 (wv3 y), .int .u64 (wv2 y), .int .u64 (wv1 y), .int .u64 (wv0 y)]) (cs := #[.int .u64 (wv3 y), .int .u64 (wv2 y), .int .u64 (wv1 y), .int .u64 (wv0 y)]) (T rfl rfl) rfl ?_)
 intro b6 w7 n8
 have N9 : w.heap.size ≤ b6 := n8.eq ▸ E5.size
 have : b1 < b6 := n8.eq ▸ lt_of_blk n3.blk
 have E10 := below_ext E5 E5.size n8.ext
 refine lw_e (oe_alloc ze26 ?_)
 intro b11 w12 n13
 have N14 : w.heap.size ≤ b11 := n13.eq ▸ E10.size
 have : b6 < b11 := n13.eq ▸ lt_of_blk n8.blk
 have E15 := below_ext E10 E10.size n13.ext
 refine lw_v (.bool false) (dv_assign C) ?_
 refine lw_nil ?_
 refine rk_seq ?_
 refine rk_any (fun w => w.heap[b1]? = some (.cells #[.int .u64 (wv3 x), .int .u64 (wv2 x), .int .u64 (wv1 x), .int .u64 (wv0 x)] 26) ∧ w.heap[b6]? = some (.cells #[.int .u64 (wv3 y), .int .u64 (wv2 y), .int .u64 (wv1 y), .int .u64 (wv0 y)] 26)) [9] mo ?_
 intro w16 d17
 have E18 := below_ext E15 E15.size d17.ext
 have H19 := (d17.ext.blk (n13.ext.blk (n8.ext.blk n3.blk)))
 have H20 := (d17.ext.blk (n13.ext.blk n8.blk))
 refine aw_load 0 (.agg #[.int .u64 (wv3 x), .int .u64 (wv2 x), .int .u64 (wv1 x), .int .u64 (wv0 x)]) rfl (by kernel_rfl) .none ⟨H19, H20⟩ (fun _ s => dv_loads (l := [.int .u64 (wv3 x), .int .u64 (wv2 x), .int .u64 (wv1 x), .int .u64 (wv0 x)]) agt26 sz26 (T rfl rfl) s.1 rfl) ?_
 refine aw_load 2 (.agg #[.int .u64 (wv3 y), .int .u64 (wv2 y), .int .u64 (wv1 y), .int .u64 (wv0 y)]) rfl (by kernel_rfl) .none ⟨H19, H20⟩ (fun _ s => dv_loads (l := [.int .u64 (wv3 y), .int .u64 (wv2 y), .int .u64 (wv1 y), .int .u64 (wv0 y)]) agt26 sz26 (T rfl rfl) s.2 rfl) ?_
 refine aw_one 1 rfl (by kernel_rfl) .none (oe_callf (vs := [.agg #[.int .u64 (wv3 x), .int .u64 (wv2 x), .int .u64 (wv1 x), .int .u64 (wv0 x)]]) co49 (ar1 (T rfl rfl)) (l1Fromz_ok (z := x) fx_) ?_)
 rintro _ w26 ⟨nr21, A22, n23, c24, rfl, e27, h25⟩
 have E28 := below_ext E18 E18.size e27
 have lh25 := Num.len (by decide) h25
 have H29 := (e27.blk H19)
 have H30 := (e27.blk H20)
 refine ⟨.inr ⟨H29, H30⟩, ?_⟩
 refine aw_one 3 rfl (by kernel_rfl) .none (oe_callf (vs := [.agg #[.int .u64 (wv3 y), .int .u64 (wv2 y), .int .u64 (wv1 y), .int .u64 (wv0 y)]]) co49 (ar1 (T rfl rfl)) (l1Fromz_ok (z := y) fy_) ?_)
 rintro _ w36 ⟨nr31, A32, n33, c34, rfl, e37, h35⟩
 have E38 := below_ext E28 E28.size e37
 have lh35 := Num.len (by decide) h35
 have H39 := (e37.blk H29)
 have H40 := (e37.blk H30)
 refine ⟨.inr ⟨H39, H40⟩, ?_⟩
 have h41 := (h25.ext e37)
 refine aw_one 4 rfl (by kernel_rfl) .none (oe_callf (vs := [.agg #[.bool nr21, .slice A22 n23 c24], .agg #[.bool nr31, .slice A32 n33 c34]]) co64 (ar2 (T rfl rfl) (T rfl rfl)) (l1Gcd_ok h41 h35 (by first | decide | omega) (by first | decide | omega)) ?_)
 rintro _ w47 ⟨nr42, A43, n44, c45, rfl, e48, h46⟩
 have E49 := below_ext E38 E38.size e48
 have lh46 := Num.len (by decide) h46
 have H50 := (e48.blk H39)
 have H51 := (e48.blk H40)
 refine ⟨.inr ⟨H50, H51⟩, ?_⟩
 refine aw_one 5 rfl (by kernel_rfl) .none (oe_callf (vs := [.agg #[.bool nr42, .slice A43 n44 c45]]) co54 (ar1 (T rfl rfl)) (l1Wide_ok h46 (by first | decide | omega)) ?_)
 rintro _ w53 ⟨rfl, e54⟩
 have E55 := below_ext E49 E49.size e54
 have bw52 := w_rg (gI x y)
 have H56 := (e54.blk H50)
 have H57 := (e54.blk H51)
 refine ⟨.inr ⟨H56, H57⟩, ?_⟩
 refine aw_pure 6 (.agg #[.int .u64 (wv3 (gI x y)), .int .u64 (wv2 (gI x y)), .int .u64 (wv1 (gI x y)), .int .u64 (wv0 (gI x y))]) rfl (by kernel_rfl) .none ⟨H56, H57⟩ (fun _ => dv_extract (vs := #[.agg #[.int .u64 (wv3 (gI x y)), .int .u64 (wv2 (gI x y)), .int .u64 (wv1 (gI x y)), .int .u64 (wv0 (gI x y))], .bool (decide (fits (gI x y)))]) (T rfl rfl) rfl) ?_
 refine aw_pure 7 (.bool (decide (fits (gI x y)))) rfl (by kernel_rfl) .none ⟨H56, H57⟩ (fun _ => dv_extract (vs := #[.agg #[.int .u64 (wv3 (gI x y)), .int .u64 (wv2 (gI x y)), .int .u64 (wv1 (gI x y)), .int .u64 (wv0 (gI x y))], .bool (decide (fits (gI x y)))]) (T rfl rfl) rfl) ?_
 have H58 := (e54.blk (e48.blk (e37.blk (e27.blk (d17.ext.blk n13.blk)))))
 refine aw_one 8 rfl (by kernel_rfl) .none (oe_store (v := .agg #[.int .u64 (wv3 (gI x y)), .int .u64 (wv2 (gI x y)), .int .u64 (wv1 (gI x y)), .int .u64 (wv0 (gI x y))]) (vs := [.int .u64 (wv3 (gI x y)), .int .u64 (wv2 (gI x y)), .int .u64 (wv1 (gI x y)), .int .u64 (wv0 (gI x y))]) (l := [.int .u64 (wv3 (gI x y)), .int .u64 (wv2 (gI x y)), .int .u64 (wv1 (gI x y)), .int .u64 (wv0 (gI x y))]) (T rfl rfl) (T rfl rfl) sz26 rfl rfl rfl H58 rfl ?_)
 intro w59 s60 H61
 have E62 := below_st E55 N14 s60
 have H63 := (s60.blk H56 (by omega))
 have H64 := (s60.blk H57 (by omega))
 refine ⟨.inr ⟨H63, H64⟩, ?_⟩
 refine aw_last 9 (.bool (decide (fits (gI x y)))) rfl (by kernel_rfl) .none (fun _ => dv_assign (T rfl rfl)) ?_
 refine aw_done (by kernel_rfl) ?_
 refine rk_ret Try.func28 (v := .tuple #[.agg #[.int .u64 (wv3 (gI x y)), .int .u64 (wv2 (gI x y)), .int .u64 (wv1 (gI x y)), .int .u64 (wv0 (gI x y))], .bool (decide (fits (gI x y)))]) (res2 Try.results28 (rv_cells (l := [.int .u64 (wv3 (gI x y)), .int .u64 (wv2 (gI x y)), .int .u64 (wv1 (gI x y)), .int .u64 (wv0 (gI x y))]) agt26 sz26 rfl rfl H61 rfl) (rv_tmp rfl rfl)) ⟨_, rfl, ?_⟩
 exact ⟨(tu2 (ag4 (vi wp3) (vi wp2) (vi wp1) (vi wp0)) rfl), E62⟩
set_option maxHeartbeats 1000000 in
theorem iWideGcd_ok {w : World} {x y : Int} (fx_ : fits x) (fy_ : fits y)  : Ct Try.prog 27 [.agg #[.int .u64 (wv3 x), .int .u64 (wv2 x), .int .u64 (wv1 x), .int .u64 (wv0 x)], .agg #[.int .u64 (wv3 y), .int .u64 (wv2 y), .int .u64 (wv1 y), .int .u64 (wv0 y)]] w fun v w1 => v = .tuple #[.agg #[.int .u64 (wv3 (pkz (fits (gI x y)) (gI x y))), .int .u64 (wv2 (pkz (fits (gI x y)) (gI x y))), .int .u64 (wv1 (pkz (fits (gI x y)) (gI x y))), .int .u64 (wv0 (pkz (fits (gI x y)) (gI x y)))], .bool (decide (fits (gI x y)))] ∧ Ext w w1 := by
 refine ct_run (n := 15) Try.func27 rfl Try.ntmps27 rfl ?_
 have E0 : Below w.heap.size w w := Below.refl _ _
 refine rk_seq ?_
 refine rk_reg ?_
 refine lw_e (oe_box (v := .agg #[.int .u64 (wv3 x), .int .u64 (wv2 x), .int .u64 (wv1 x), .int .u64 (wv0 x)]) (cs := #[.int .u64 (wv3 x), .int .u64 (wv2 x), .int .u64 (wv1 x), .int .u64 (wv0 x)]) (T rfl rfl) rfl ?_)
 intro b1 w2 n3
 have N4 : w.heap.size ≤ b1 := n3.eq ▸ E0.size
 have E5 := below_ext E0 E0.size n3.ext
 refine lw_e (oe_box (v := .agg #[.int .u64 (wv3 y), .int .u64 (wv2 y), .int .u64 (wv1 y), .int .u64 (wv0 y)]) (cs := #[.int .u64 (wv3 y), .int .u64 (wv2 y), .int .u64 (wv1 y), .int .u64 (wv0 y)]) (T rfl rfl) rfl ?_)
 intro b6 w7 n8
 have N9 : w.heap.size ≤ b6 := n8.eq ▸ E5.size
 have : b1 < b6 := n8.eq ▸ lt_of_blk n3.blk
 have E10 := below_ext E5 E5.size n8.ext
 refine lw_e (oe_alloc ze26 ?_)
 intro b11 w12 n13
 have N14 : w.heap.size ≤ b11 := n13.eq ▸ E10.size
 have : b6 < b11 := n13.eq ▸ lt_of_blk n8.blk
 have E15 := below_ext E10 E10.size n13.ext
 refine lw_v (.bool false) (dv_assign C) ?_
 refine lw_nil ?_
 refine rk_seq ?_
 refine rk_any (fun w => w.heap[b1]? = some (.cells #[.int .u64 (wv3 x), .int .u64 (wv2 x), .int .u64 (wv1 x), .int .u64 (wv0 x)] 26) ∧ w.heap[b6]? = some (.cells #[.int .u64 (wv3 y), .int .u64 (wv2 y), .int .u64 (wv1 y), .int .u64 (wv0 y)] 26)) [10] mo ?_
 intro w16 d17
 have E18 := below_ext E15 E15.size d17.ext
 have H19 := (d17.ext.blk (n13.ext.blk (n8.ext.blk n3.blk)))
 have H20 := (d17.ext.blk (n13.ext.blk n8.blk))
 refine aw_load 0 (.agg #[.int .u64 (wv3 x), .int .u64 (wv2 x), .int .u64 (wv1 x), .int .u64 (wv0 x)]) rfl (by kernel_rfl) .none ⟨H19, H20⟩ (fun _ s => dv_loads (l := [.int .u64 (wv3 x), .int .u64 (wv2 x), .int .u64 (wv1 x), .int .u64 (wv0 x)]) agt26 sz26 (T rfl rfl) s.1 rfl) ?_
 refine aw_load 2 (.agg #[.int .u64 (wv3 y), .int .u64 (wv2 y), .int .u64 (wv1 y), .int .u64 (wv0 y)]) rfl (by kernel_rfl) .none ⟨H19, H20⟩ (fun _ s => dv_loads (l := [.int .u64 (wv3 y), .int .u64 (wv2 y), .int .u64 (wv1 y), .int .u64 (wv0 y)]) agt26 sz26 (T rfl rfl) s.2 rfl) ?_
 refine aw_one 1 rfl (by kernel_rfl) .none (oe_callf (vs := [.agg #[.int .u64 (wv3 x), .int .u64 (wv2 x), .int .u64 (wv1 x), .int .u64 (wv0 x)]]) co46 (ar1 (T rfl rfl)) (wnumz_ok (z := x) fx_) ?_)
 rintro _ w26 ⟨nr21, A22, n23, c24, rfl, e27, h25⟩
 have E28 := below_ext E18 E18.size e27
 have lh25 := Num.len (by decide) h25
 have H29 := (e27.blk H19)
 have H30 := (e27.blk H20)
 refine ⟨.inr ⟨H29, H30⟩, ?_⟩
 refine aw_one 3 rfl (by kernel_rfl) .none (oe_callf (vs := [.agg #[.int .u64 (wv3 y), .int .u64 (wv2 y), .int .u64 (wv1 y), .int .u64 (wv0 y)]]) co46 (ar1 (T rfl rfl)) (wnumz_ok (z := y) fy_) ?_)
 rintro _ w36 ⟨nr31, A32, n33, c34, rfl, e37, h35⟩
 have E38 := below_ext E28 E28.size e37
 have lh35 := Num.len (by decide) h35
 have H39 := (e37.blk H29)
 have H40 := (e37.blk H30)
 refine ⟨.inr ⟨H39, H40⟩, ?_⟩
 refine aw_one 4 rfl (by kernel_rfl) .none (oe_buildSlice (pv := [(0, .agg #[.bool nr21, .slice A22 n23 c24]), (1, .agg #[.bool nr31, .slice A32 n33 c34])]) (init := [.bool false, .slice none 0 0, .bool false, .slice none 0 0]) (l := [.bool nr21, .slice A22 n23 c24, .bool nr31, .slice A32 n33 c34]) us113 sz59 rfl rfl zc59 (by kernel_rfl) ⟨rfl, (T rfl rfl), ⟨rfl, (T rfl rfl), trivial⟩⟩ rfl ?_)
 intro b41 w42 n43
 have N44 : w.heap.size ≤ b41 := n43.eq ▸ E38.size
 have H45 := (e37.blk (e27.blk (d17.ext.blk n13.blk)))
 have : b11 < b41 := n43.eq ▸ lt_of_blk H45
 have E46 := below_ext E38 E38.size n43.ext
 have H47 := (n43.ext.blk H39)
 have H48 := (n43.ext.blk H40)
 refine ⟨.inr ⟨H47, H48⟩, ?_⟩
 have h49 := ((h25.ext e37).ext n43.ext)
 have h50 := (h35.ext n43.ext)
 refine aw_one 5 rfl (by kernel_rfl) .none (oe_callf (vs := [.slice (some ⟨b41, 0, none⟩) 2 2]) co63 (ar1 (T rfl rfl)) (gcd2_ok h49 h50 (by first | decide | omega) (by first | decide | omega) n43.blk) ?_)
 rintro _ w56 ⟨nr51, A52, n53, c54, rfl, e57, h55⟩
 have E58 := below_ext E46 E46.size e57
 have lh55 := Num.len (by decide) h55
 have H59 := (e57.blk H47)
 have H60 := (e57.blk H48)
 refine ⟨.inr ⟨H59, H60⟩, ?_⟩
 refine aw_one 6 rfl (by kernel_rfl) .none (oe_callf (vs := [.agg #[.bool nr51, .slice A52 n53 c54]]) co51 (ar1 (T rfl rfl)) (nwide_ok h55 (by first | decide | omega)) ?_)
 rintro _ w62 ⟨rfl, e63⟩
 have E64 := below_ext E58 E58.size e63
 have bw61 := w_rg (gI x y)
 have H65 := (e63.blk H59)
 have H66 := (e63.blk H60)
 refine ⟨.inr ⟨H65, H66⟩, ?_⟩
 refine aw_pure 7 (.agg #[.int .u64 (wv3 (gI x y)), .int .u64 (wv2 (gI x y)), .int .u64 (wv1 (gI x y)), .int .u64 (wv0 (gI x y))]) rfl (by kernel_rfl) .none ⟨H65, H66⟩ (fun _ => dv_extract (vs := #[.agg #[.int .u64 (wv3 (gI x y)), .int .u64 (wv2 (gI x y)), .int .u64 (wv1 (gI x y)), .int .u64 (wv0 (gI x y))], .bool (decide (fits (gI x y)))]) (T rfl rfl) rfl) ?_
 refine aw_pure 8 (.bool (decide (fits (gI x y)))) rfl (by kernel_rfl) .none ⟨H65, H66⟩ (fun _ => dv_extract (vs := #[.agg #[.int .u64 (wv3 (gI x y)), .int .u64 (wv2 (gI x y)), .int .u64 (wv1 (gI x y)), .int .u64 (wv0 (gI x y))], .bool (decide (fits (gI x y)))]) (T rfl rfl) rfl) ?_
 have H67 := (e63.blk (e57.blk (n43.ext.blk H45)))
 refine aw_one 9 rfl (by kernel_rfl) .none (oe_store (v := .agg #[.int .u64 (wv3 (gI x y)), .int .u64 (wv2 (gI x y)), .int .u64 (wv1 (gI x y)), .int .u64 (wv0 (gI x y))]) (vs := [.int .u64 (wv3 (gI x y)), .int .u64 (wv2 (gI x y)), .int .u64 (wv1 (gI x y)), .int .u64 (wv0 (gI x y))]) (l := [.int .u64 (wv3 (gI x y)), .int .u64 (wv2 (gI x y)), .int .u64 (wv1 (gI x y)), .int .u64 (wv0 (gI x y))]) (T rfl rfl) (T rfl rfl) sz26 rfl rfl rfl H67 rfl ?_)
 intro w68 s69 H70
 have E71 := below_st E64 N14 s69
 have H72 := (s69.blk H65 (by omega))
 have H73 := (s69.blk H66 (by omega))
 refine ⟨.inr ⟨H72, H73⟩, ?_⟩
 refine aw_last 10 (.bool (decide (fits (gI x y)))) rfl (by kernel_rfl) .none (fun _ => dv_assign (T rfl rfl)) ?_
 refine aw_done (by kernel_rfl) ?_
 refine rk_ret Try.func27 (v := .tuple #[.agg #[.int .u64 (wv3 (gI x y)), .int .u64 (wv2 (gI x y)), .int .u64 (wv1 (gI x y)), .int .u64 (wv0 (gI x y))], .bool (decide (fits (gI x y)))]) (res2 Try.results27 (rv_cells (l := [.int .u64 (wv3 (gI x y)), .int .u64 (wv2 (gI x y)), .int .u64 (wv1 (gI x y)), .int .u64 (wv0 (gI x y))]) agt26 sz26 rfl rfl H70 rfl) (rv_tmp rfl rfl)) ⟨_, rfl, ?_⟩
 exact ⟨(tu2 (ag4 (vi wp3) (vi wp2) (vi wp1) (vi wp0)) rfl), E71⟩
end Go.Proofs.Ytfmkadgjoechnaa.W
set_option linter.unusedVariables false
set_option linter.unusedSimpArgs false
namespace Go.Proofs.Ytfmkadgjoechnaa.W
open Go Go.RowKit Go.Proofs.Ytfmkadgjoechnaa.Fw
attribute [local irreducible] RunK LW AW DV OE Ct
theorem agt5 : aggB Try.prog 5 = some false := by kernel_rfl
theorem sz5 : sizeB Try.prog 5 = some 1 := by kernel_rfl
theorem ui5 : Try.prog.underlying 5 = some (.int .u8) := by kernel_rfl
theorem us22 : Try.prog.underlying 22 = some (.slice 5) := by kernel_rfl
end Go.Proofs.Ytfmkadgjoechnaa.W
set_option linter.unusedVariables false
set_option linter.unusedSimpArgs false
namespace Go.Proofs.Ytfmkadgjoechnaa.W
open Go Go.RowKit Go.Proofs.Ytfmkadgjoechnaa.Fw
attribute [local irreducible] RunK LW AW DV OE Ct
theorem co56 : callOk Try.prog 56 = true := by kernel_rfl
theorem co78 : callOk Try.prog 78 = true := by kernel_rfl
end Go.Proofs.Ytfmkadgjoechnaa.W
set_option linter.unusedVariables false
set_option linter.unusedSimpArgs false
namespace Go.Proofs.Ytfmkadgjoechnaa.W
open Go Go.RowKit Go.Proofs.Ytfmkadgjoechnaa.Fw
attribute [local irreducible] RunK LW AW DV OE Ct
theorem agt22 : aggB Try.prog 22 = some false := by kernel_rfl
theorem agt3 : aggB Try.prog 3 = some false := by kernel_rfl
theorem co22 : callOk Try.prog 22 = true := by kernel_rfl
theorem co47 : callOk Try.prog 47 = true := by kernel_rfl
theorem co48 : callOk Try.prog 48 = true := by kernel_rfl
theorem co60 : callOk Try.prog 60 = true := by kernel_rfl
theorem co61 : callOk Try.prog 61 = true := by kernel_rfl
theorem co77 : callOk Try.prog 77 = true := by kernel_rfl
theorem co97 : callOk Try.prog 97 = true := by kernel_rfl
theorem fo91_0 : fieldOffB Try.prog 91 0 = some 0 := by kernel_rfl
theorem fo91_1 : fieldOffB Try.prog 91 1 = some 1 := by kernel_rfl
theorem sz3 : sizeB Try.prog 3 = some 1 := by kernel_rfl
set_option maxHeartbeats 1000000 in
theorem rnext_ok {w : World}  {br : Nat} {A : Option Addr} {l c : Nat} {xs : List Int} {p : Int} (hx : RdI w .u8 A xs) (hxl : xs.length = l) (hl : l ≤ 1048576) (ok : okW 256 xs) (hAb : xs = [] ∨ ∀ g o, A = some ⟨g, o, none⟩ → g ≠ br) (hB : w.heap[br]? = some (.cells #[.slice A l c, .int .i64 p] 91)) (hp : 0 ≤ p ∧ p ≤ l)  : Ct Try.prog 97 [.pointer (some ⟨br, 0, none⟩)] w fun v w1 => ∃ (z : Int) (p' : Int), v = .int .i64 z ∧ Bx br w w1 ∧ w1.heap[br]? = some (.cells #[.slice A l c, .int .i64 p'] 91) ∧ (0 ≤ p' ∧ p' ≤ l) ∧ 0 ≤ z ∧ z < 256 := by
 refine ct_run (n := 32) Try.func97 rfl Try.ntmps97 rfl ?_
 have E0 : Bx br w w := Bx.refl _ _
 obtain ⟨q, rfl⟩ : ∃ q : Nat, p = q := ⟨p.toNat, by omega⟩
 refine rk_seq ?_
 refine rk_reg ?_
 refine lw_v (.int .i64 0) (dv_assign C) ?_
 refine lw_nil ?_
 refine rk_seq ?_
 refine rk_seq ?_
 refine rk_any (fun w => w.heap[br]? = some (.cells #[.slice A l c, .int .i64 ((q : Int))] 91)) [] mo ?_
 intro w1 d2
 have E3 := bx_ext E0 d2.ext
 have H4 := (d2.ext.blk hB)
 refine aw_pure 0 (.pointer (some ⟨br, 0, none⟩)) rfl (by kernel_rfl) .none H4 (fun _ => dv_move (T rfl rfl)) ?_
 refine aw_pure 1 (.pointer (some ⟨br, 0, none⟩)) rfl (by kernel_rfl) .none H4 (fun _ => dv_nilCheck (T rfl rfl)) ?_
 refine aw_pure 2 (.pointer (some ⟨br, 1, none⟩)) rfl (by kernel_rfl) .none H4 (fun _ => dv_fieldAddr (a := ⟨br, 0, none⟩) (a' := ⟨br, 1, none⟩) fo91_1 (T rfl rfl) rfl) ?_
 refine aw_load 3 (.int .i64 ((q : Int))) rfl (by kernel_rfl) .none H4 (fun _ s => dv_load1 (b := br) (o := 1) agt3 (T rfl rfl) s rfl) ?_
 refine aw_pure 4 (.pointer (some ⟨br, 0, none⟩)) rfl (by kernel_rfl) .none H4 (fun _ => dv_move (T rfl rfl)) ?_
 refine aw_pure 5 (.pointer (some ⟨br, 0, none⟩)) rfl (by kernel_rfl) .none H4 (fun _ => dv_nilCheck (T rfl rfl)) ?_
 refine aw_pure 6 (.pointer (some ⟨br, 0, none⟩)) rfl (by kernel_rfl) .none H4 (fun _ => dv_fieldAddr (a := ⟨br, 0, none⟩) (a' := ⟨br, 0, none⟩) fo91_0 (T rfl rfl) rfl) ?_
 refine aw_load 7 (.slice A l c) rfl (by kernel_rfl) .none H4 (fun _ s => dv_load1 (b := br) (o := 0) agt22 (T rfl rfl) s rfl) ?_
 refine aw_pure 8 (.int .i64 ((l : Int))) rfl (by kernel_rfl) .none H4 (fun _ => dv_len (ad := A) (l := l) (c := c) us22 (T rfl rfl)) ?_
 refine aw_pure 9 (.bool (decide (((l : Int)) ≤ ((q : Int))))) rfl (by kernel_rfl) .none H4 (fun _ => dv_geq (a := (q : Int)) (b := (l : Int)) (T rfl rfl) (T rfl rfl)) ?_
 refine aw_done (by kernel_rfl) ?_
 by_cases hb5 : ((l : Int)) ≤ ((q : Int))
 · refine rk_ct (T rfl (congrArg Value.bool (decide_eq_true hb5))) ?_
   refine rk_seq ?_
   refine rk_reg ?_
   refine lw_v (.int .i64 0) (dv_assign C) ?_
   refine lw_nil ?_
   refine rk_ret Try.func97 (v := .int .i64 0) (res1 Try.results97 (rv_tmp rfl rfl)) ⟨_, rfl, ?_⟩
   exact ⟨0, (q : Int), rfl, E3, H4, (by omega), (by first | omega | exact okW.getD ok (by decide) _)⟩
 · refine rk_cf (T rfl (congrArg Value.bool (decide_eq_false hb5))) ?_
   refine rk_skip ?_
   refine rk_seq ?_
   refine rk_reg ?_
   refine lw_v (.pointer (some ⟨br, 0, none⟩)) (dv_move (T rfl rfl)) ?_
   refine lw_v (.pointer (some ⟨br, 0, none⟩)) (dv_nilCheck (T rfl rfl)) ?_
   refine lw_v (.pointer (some ⟨br, 1, none⟩)) (dv_fieldAddr (a := ⟨br, 0, none⟩) (a' := ⟨br, 1, none⟩) fo91_1 (T rfl rfl) rfl) ?_
   refine lw_v (.int .i64 ((q : Int))) (dv_load1 (b := br) (o := 1) agt3 (T rfl rfl) H4 rfl) ?_
   refine lw_v (.int .i64 (((q : Int)) + 1)) (dv_add (a := (q : Int)) (b := 1) (z := ((q : Int)) + 1) (T rfl rfl) C (wr_i64 (by omega) (by omega))) ?_
   refine lw_v (.pointer (some ⟨br, 0, none⟩)) (dv_nilCheck (T rfl rfl)) ?_
   refine lw_v (.pointer (some ⟨br, 1, none⟩)) (dv_fieldAddr (a := ⟨br, 0, none⟩) (a' := ⟨br, 1, none⟩) fo91_1 (T rfl rfl) rfl) ?_
   refine lw_e (oe_store (v := .int .i64 (((q : Int)) + 1)) (vs := [.int .i64 (((q : Int)) + 1)]) (l := [.slice A l c, .int .i64 (((q : Int)) + 1)]) (T rfl rfl) (T rfl rfl) sz3 rfl rfl rfl H4 rfl ?_)
   intro w6 s7 H8
   have E9 := bx_st E3 s7
   refine lw_nil ?_
   refine rk_seq ?_
   have h10 := hx.bx E9 hAb
   refine rk_any (fun w => w.heap[br]? = some (.cells #[.slice A l c, .int .i64 (((q : Int)) + 1)] 91) ∧ RdI w .u8 A xs) [12] mo ?_
   intro w11 d12
   have E13 := bx_ext E9 d12.ext
   have H14 := (d12.ext.blk H8)
   have h15 := (h10.ext d12.ext)
   refine aw_pure 0 (.pointer (some ⟨br, 0, none⟩)) rfl (by kernel_rfl) .none ⟨H14, h15⟩ (fun _ => dv_move (T rfl rfl)) ?_
   refine aw_pure 1 (.pointer (some ⟨br, 0, none⟩)) rfl (by kernel_rfl) .none ⟨H14, h15⟩ (fun _ => dv_nilCheck (T rfl rfl)) ?_
   refine aw_pure 2 (.pointer (some ⟨br, 0, none⟩)) rfl (by kernel_rfl) .none ⟨H14, h15⟩ (fun _ => dv_fieldAddr (a := ⟨br, 0, none⟩) (a' := ⟨br, 0, none⟩) fo91_0 (T rfl rfl) rfl) ?_
   refine aw_load 3 (.slice A l c) rfl (by kernel_rfl) .none ⟨H14, h15⟩ (fun _ s => dv_load1 (b := br) (o := 0) agt22 (T rfl rfl) s.1 rfl) ?_
   refine aw_pure 4 (.pointer (some ⟨br, 0, none⟩)) rfl (by kernel_rfl) .none ⟨H14, h15⟩ (fun _ => dv_move (T rfl rfl)) ?_
   refine aw_pure 5 (.pointer (some ⟨br, 0, none⟩)) rfl (by kernel_rfl) .none ⟨H14, h15⟩ (fun _ => dv_nilCheck (T rfl rfl)) ?_
   refine aw_pure 6 (.pointer (some ⟨br, 1, none⟩)) rfl (by kernel_rfl) .none ⟨H14, h15⟩ (fun _ => dv_fieldAddr (a := ⟨br, 0, none⟩) (a' := ⟨br, 1, none⟩) fo91_1 (T rfl rfl) rfl) ?_
   refine aw_load 7 (.int .i64 (((q : Int)) + 1)) rfl (by kernel_rfl) .none ⟨H14, h15⟩ (fun _ s => dv_load1 (b := br) (o := 1) agt3 (T rfl rfl) s.1 rfl) ?_
   refine aw_pure 8 (.int .i64 ((((q : Int)) + 1) - 1)) rfl (by kernel_rfl) .none ⟨H14, h15⟩ (fun _ => dv_sub (a := ((q : Int)) + 1) (b := 1) (z := (((q : Int)) + 1) - 1) (T rfl rfl) C (wr_i64 (by omega) (by omega))) ?_
   obtain ⟨g16, o17, rfl⟩ := RdI.at h15 (by first | omega | (simp; done) | (simp; omega))
   refine aw_pure 9 (.pointer (some ⟨g16, o17 + (((q) + 1) - 1), none⟩)) rfl (by kernel_rfl) .none ⟨H14, h15⟩ (fun _ => dv_indexW (g := g16) (o := o17) (l := l) (c := c) (i := (((q) + 1) - 1)) (j := (((q : Int)) + 1) - 1) us22 sz5 (T rfl rfl) (T rfl rfl) (by omega) (by first | omega | (simp; done) | (simp; omega))) ?_
   have := okW.getD ok (by decide) ((((q) + 1) - 1))
   refine aw_load 10 (.int .u8 (xs.getD ((((q) + 1) - 1)) 0)) rfl (by kernel_rfl) .none ⟨H14, h15⟩ (fun _ s => dv_load agt5 (T rfl rfl) (RdI.cell s.2 (by first | omega | (simp; done) | (simp; omega)))) ?_
   refine aw_pure 11 (.int .i64 (xs.getD ((((q) + 1) - 1)) 0)) rfl (by kernel_rfl) .none ⟨H14, h15⟩ (fun _ => dv_conv (a := xs.getD ((((q) + 1) - 1)) 0) (z := xs.getD ((((q) + 1) - 1)) 0) ui5 ui3 (T rfl rfl) (wr_i64 (by omega) (by omega))) ?_
   refine aw_last 12 (.int .i64 (xs.getD ((((q) + 1) - 1)) 0)) rfl (by kernel_rfl) .none (fun _ => dv_assign (T rfl rfl)) ?_
   refine aw_done (by kernel_rfl) ?_
   refine rk_ret Try.func97 (v := .int .i64 (xs.getD ((((q) + 1) - 1)) 0)) (res1 Try.results97 (rv_tmp rfl rfl)) ⟨_, rfl, ?_⟩
   exact ⟨xs.getD ((((q) + 1) - 1)) 0, ((q : Int)) + 1, rfl, E13, H14, (by omega), (by first | omega | exact okW.getD ok (by decide) _)⟩
set_option maxHeartbeats 1000000 in
theorem rbelow_ok {w : World} {n : Int} {br : Nat} {A : Option Addr} {l c : Nat} {xs : List Int} {p : Int} (hx : RdI w .u8 A xs) (hxl : xs.length = l) (hl : l ≤ 1048576) (ok : okW 256 xs) (hAb : xs = [] ∨ ∀ g o, A = some ⟨g, o, none⟩ → g ≠ br) (hB : w.heap[br]? = some (.cells #[.slice A l c, .int .i64 p] 91)) (hp : 0 ≤ p ∧ p ≤ l)  : Ct Try.prog 61 [.pointer (some ⟨br, 0, none⟩), .int .i64 n] w fun v w1 => ∃ (z : Int) (p' : Int), v = .int .i64 z ∧ Bx br w w1 ∧ w1.heap[br]? = some (.cells #[.slice A l c, .int .i64 p'] 91) ∧ (0 ≤ p' ∧ p' ≤ l) ∧ 0 ≤ z ∧ (z < n ∨ z ≤ 0) := by
 refine ct_run (n := 24) Try.func61 rfl Try.ntmps61 rfl ?_
 have E0 : Bx br w w := Bx.refl _ _
 refine rk_seq ?_
 refine rk_reg ?_
 refine lw_v (.int .i64 0) (dv_assign C) ?_
 refine lw_nil ?_
 refine rk_seq ?_
 refine rk_seq ?_
 refine rk_reg ?_
 refine lw_v (.int .i64 n) (dv_move (T rfl rfl)) ?_
 refine lw_v (.bool (decide (n ≤ 1))) (dv_leq (a := n) (b := 1) (T rfl rfl) C) ?_
 refine lw_nil ?_
 by_cases hb1 : n ≤ 1
 · refine rk_ct (T rfl (congrArg Value.bool (decide_eq_true hb1))) ?_
   refine rk_seq ?_
   refine rk_reg ?_
   refine lw_v (.int .i64 0) (dv_assign C) ?_
   refine lw_nil ?_
   refine rk_ret Try.func61 (v := .int .i64 0) (res1 Try.results61 (rv_tmp rfl rfl)) ⟨_, rfl, ?_⟩
   exact ⟨0, p, rfl, E0, hB, (by omega), (by omega)⟩
 · refine rk_cf (T rfl (congrArg Value.bool (decide_eq_false hb1))) ?_
   refine rk_skip ?_
   refine rk_seq ?_
   refine rk_seq ?_
   refine rk_reg ?_
   refine lw_v (.int .i64 n) (dv_move (T rfl rfl)) ?_
   refine lw_v (.bool (decide (n ≤ 256))) (dv_leq (a := n) (b := 256) (T rfl rfl) C) ?_
   refine lw_nil ?_
   by_cases hb2 : n ≤ 256
   · refine rk_ct (T rfl (congrArg Value.bool (decide_eq_true hb2))) ?_
     refine rk_seq ?_
     refine rk_reg ?_
     refine lw_v (.pointer (some ⟨br, 0, none⟩)) (dv_move (T rfl rfl)) ?_
     refine lw_e (oe_callf (vs := [.pointer (some ⟨br, 0, none⟩)]) co97 (ar1 (T rfl rfl)) (rnext_ok  hx (by first | omega | (simp; done) | (simp; omega)) (by first | omega | (simp; done) | (simp; omega)) ok hAb hB (by omega) ) ?_)
     rintro _ w9 ⟨zi3, p4, rfl, e10, H6, hp7, hz8⟩
     have E11 := E0.trans e10
     refine lw_v (.int .i64 n) (dv_move (T rfl rfl)) ?_
     have := Int.emod_nonneg zi3 (show n ≠ 0 by omega); have := Int.emod_lt_of_pos zi3 (show 0 < n by omega)
     refine lw_v (.int .i64 (zi3 % n)) (dv_rem (a := zi3) (b := n) (z := zi3 % n) (T rfl rfl) (T rfl rfl) (by omega) (rem_c (by omega) rfl)) ?_
     refine lw_v (.int .i64 (zi3 % n)) (dv_assign (T rfl rfl)) ?_
     refine lw_nil ?_
     refine rk_ret Try.func61 (v := .int .i64 (zi3 % n)) (res1 Try.results61 (rv_tmp rfl rfl)) ⟨_, rfl, ?_⟩
     exact ⟨zi3 % n, p4, rfl, E11, H6, (by omega), (by omega)⟩
   · refine rk_cf (T rfl (congrArg Value.bool (decide_eq_false hb2))) ?_
     refine rk_skip ?_
     refine rk_seq ?_
     refine rk_reg ?_
     refine lw_v (.pointer (some ⟨br, 0, none⟩)) (dv_move (T rfl rfl)) ?_
     refine lw_e (oe_callf (vs := [.pointer (some ⟨br, 0, none⟩)]) co97 (ar1 (T rfl rfl)) (rnext_ok  hx (by first | omega | (simp; done) | (simp; omega)) (by first | omega | (simp; done) | (simp; omega)) ok hAb hB (by omega) ) ?_)
     rintro _ w18 ⟨zi12, p13, rfl, e19, H15, hp16, hz17⟩
     have E20 := E0.trans e19
     refine lw_v (.int .i64 (zi12 * 256)) (dv_mul (a := zi12) (b := 256) (z := zi12 * 256) (T rfl rfl) C (wr_i64 (by omega) (by omega))) ?_
     refine lw_v (.int .i64 (zi12 * 256)) (dv_assign (T rfl rfl)) ?_
     refine lw_nil ?_
     refine rk_seq ?_
     refine rk_reg ?_
     refine lw_v (.int .i64 (zi12 * 256)) (dv_move (T rfl rfl)) ?_
     refine lw_v (.pointer (some ⟨br, 0, none⟩)) (dv_move (T rfl rfl)) ?_
     have h21 := hx.bx E20 hAb
     refine lw_e (oe_callf (vs := [.pointer (some ⟨br, 0, none⟩)]) co97 (ar1 (T rfl rfl)) (rnext_ok  h21 (by first | omega | (simp; done) | (simp; omega)) (by first | omega | (simp; done) | (simp; omega)) ok hAb H15 (by omega) ) ?_)
     rintro _ w28 ⟨zi22, p23, rfl, e29, H25, hp26, hz27⟩
     have E30 := E20.trans e29
     refine lw_v (.int .i64 ((zi12 * 256) + zi22)) (dv_add (a := zi12 * 256) (b := zi22) (z := (zi12 * 256) + zi22) (T rfl rfl) (T rfl rfl) (wr_i64 (by omega) (by omega))) ?_
     refine lw_v (.int .i64 ((zi12 * 256) + zi22)) (dv_assign (T rfl rfl)) ?_
     refine lw_nil ?_
     refine rk_seq ?_
     refine rk_reg ?_
     refine lw_v (.int .i64 ((zi12 * 256) + zi22)) (dv_move (T rfl rfl)) ?_
     refine lw_v (.int .i64 n) (dv_move (T rfl rfl)) ?_
     have := Int.emod_nonneg ((zi12 * 256) + zi22) (show n ≠ 0 by omega); have := Int.emod_lt_of_pos ((zi12 * 256) + zi22) (show 0 < n by omega)
     refine lw_v (.int .i64 (((zi12 * 256) + zi22) % n)) (dv_rem (a := (zi12 * 256) + zi22) (b := n) (z := ((zi12 * 256) + zi22) % n) (T rfl rfl) (T rfl rfl) (by omega) (rem_c (by omega) rfl)) ?_
     refine lw_v (.int .i64 (((zi12 * 256) + zi22) % n)) (dv_assign (T rfl rfl)) ?_
     refine lw_nil ?_
     refine rk_ret Try.func61 (v := .int .i64 (((zi12 * 256) + zi22) % n)) (res1 Try.results61 (rv_tmp rfl rfl)) ⟨_, rfl, ?_⟩
     exact ⟨((zi12 * 256) + zi22) % n, p23, rfl, E30, H25, (by omega), (by omega)⟩
set_option maxHeartbeats 1000000 in
theorem ronce_ok {w : World} {n : Int} {br : Nat} {A : Option Addr} {l c : Nat} {xs : List Int} {p : Int} (hx : RdI w .u8 A xs) (hxl : xs.length = l) (hl : l ≤ 1048576) (ok : okW 256 xs) (hAb : xs = [] ∨ ∀ g o, A = some ⟨g, o, none⟩ → g ≠ br) (hB : w.heap[br]? = some (.cells #[.slice A l c, .int .i64 p] 91)) (hp : 0 ≤ p ∧ p ≤ l) (hn : -1000000 ≤ n ∧ n ≤ 1000000) : Ct Try.prog 45 [.pointer (some ⟨br, 0, none⟩), .int .i64 n] w fun v w1 => ∃ (z : Bool) (p' : Int), v = .bool z ∧ Bx br w w1 ∧ w1.heap[br]? = some (.cells #[.slice A l c, .int .i64 p'] 91) ∧ (0 ≤ p' ∧ p' ≤ l) ∧ True := by
 refine ct_run (n := 11) Try.func45 rfl Try.ntmps45 rfl ?_
 have E0 : Bx br w w := Bx.refl _ _
 refine rk_seq ?_
 refine rk_reg ?_
 refine lw_v (.bool false) (dv_assign C) ?_
 refine lw_nil ?_
 refine rk_seq ?_
 refine rk_reg ?_
 refine lw_v (.pointer (some ⟨br, 0, none⟩)) (dv_move (T rfl rfl)) ?_
 refine lw_v (.int .i64 n) (dv_move (T rfl rfl)) ?_
 refine lw_e (oe_callf (vs := [.pointer (some ⟨br, 0, none⟩), .int .i64 n]) co61 (ar2 (T rfl rfl) (T rfl rfl)) (rbelow_ok (n := n) hx (by first | omega | (simp; done) | (simp; omega)) (by first | omega | (simp; done) | (simp; omega)) ok hAb hB (by omega) ) ?_)
 rintro _ w7 ⟨zi1, p2, rfl, e8, H4, hp5, hz6⟩
 have E9 := E0.trans e8
 refine lw_v (.int .i64 n) (dv_move (T rfl rfl)) ?_
 refine lw_v (.int .i64 (n - 1)) (dv_sub (a := n) (b := 1) (z := n - 1) (T rfl rfl) C (wr_i64 (by omega) (by omega))) ?_
 refine lw_v (.bool (decide (zi1 = (n - 1)))) (dv_eql (a := zi1) (b := n - 1) (T rfl rfl) (T rfl rfl)) ?_
 refine lw_v (.bool (decide (zi1 = (n - 1)))) (dv_assign (T rfl rfl)) ?_
 refine lw_nil ?_
 refine rk_ret Try.func45 (v := .bool (decide (zi1 = (n - 1)))) (res1 Try.results45 (rv_tmp rfl rfl)) ⟨_, rfl, ?_⟩
 exact ⟨decide (zi1 = (n - 1)), p2, rfl, E9, H4, (by omega), trivial⟩
set_option maxHeartbeats 1000000 in
theorem rword_ok {w : World}  {br : Nat} {A : Option Addr} {l c : Nat} {xs : List Int} {p : Int} (hx : RdI w .u8 A xs) (hxl : xs.length = l) (hl : l ≤ 1048576) (ok : okW 256 xs) (hAb : xs = [] ∨ ∀ g o, A = some ⟨g, o, none⟩ → g ≠ br) (hB : w.heap[br]? = some (.cells #[.slice A l c, .int .i64 p] 91)) (hp : 0 ≤ p ∧ p ≤ l)  : Ct Try.prog 77 [.pointer (some ⟨br, 0, none⟩)] w fun v w1 => ∃ (z : Int) (p' : Int), v = .int .u64 z ∧ Bx br w w1 ∧ w1.heap[br]? = some (.cells #[.slice A l c, .int .i64 p'] 91) ∧ (0 ≤ p' ∧ p' ≤ l) ∧ 0 ≤ z ∧ z < 18446744073709551616 := by
 refine ct_run (n := 16) Try.func77 rfl Try.ntmps77 rfl ?_
 have E0 : Bx br w w := Bx.refl _ _
 refine rk_seq ?_
 refine rk_reg ?_
 refine lw_v (.int .u64 0) (dv_assign C) ?_
 refine lw_nil ?_
 refine rk_seq ?_
 refine rk_reg ?_
 refine lw_v (.int .u64 0) (dv_assign C) ?_
 refine lw_nil ?_
 refine rk_seq ?_
 refine rk_seq ?_
 refine rk_reg ?_
 refine lw_v (.int .i64 0) (dv_assign C) ?_
 refine lw_nil ?_
 refine rk_block ?_
 refine rk_loop (fun dm_ fr wl => ∃ (i : Nat) (z p : Int), dm_ = 8 - i ∧ fr 0 = .pointer (some ⟨br, 0, none⟩) ∧ fr 2 = .int .u64 0 ∧ fr 3 = .int .u64 z ∧ fr 4 = .int .i64 ((i : Int)) ∧ Bx br w wl ∧ wl.heap[br]? = some (.cells #[.slice A l c, .int .i64 p] 91) ∧ (i ≤ 8) ∧ (0 ≤ z ∧ z < 18446744073709551616) ∧ (0 ≤ p ∧ p ≤ l)) (8 - 0) ⟨0, 0, p, rfl, rfl, rfl, rfl, (vi (by omega)), E0, hB, (Nat.zero_le _), (by decide), (by omega)⟩ ?_
 intro d5 fr4 w1 hI2 ih3
 obtain ⟨i, z, p, hd12, f6, f7, f8, f9, E10, H11, hi, hz, hp⟩ := hI2
 refine rk_seq ?_
 refine rk_seq ?_
 refine rk_reg ?_
 refine lw_v (.int .i64 ((i : Int))) (dv_move (T rfl f9)) ?_
 refine lw_v (.bool (decide (((i : Int)) < 8))) (dv_lss (a := (i : Int)) (b := 8) (T rfl rfl) C) ?_
 refine lw_nil ?_
 by_cases hb13 : ((i : Int)) < 8
 · refine rk_ct (T rfl (congrArg Value.bool (decide_eq_true hb13))) ?_
   refine rk_skip ?_
   refine rk_seq ?_
   refine rk_block ?_
   refine rk_reg ?_
   refine lw_v (.int .u64 z) (dv_move (T rfl f8)) ?_
   refine lw_v (.int .u64 ((z * 256) % 18446744073709551616)) (dv_shl (a := z) (b := 8) (z := (z * 256) % 18446744073709551616) (T rfl rfl) C (by decide) (shl_c (m := 256) (n := 8) (by decide) (wr_u64 _))) ?_
   refine lw_v (.pointer (some ⟨br, 0, none⟩)) (dv_move (T rfl f6)) ?_
   have h14 := hx.bx E10 hAb
   refine lw_e (oe_callf (vs := [.pointer (some ⟨br, 0, none⟩)]) co97 (ar1 (T rfl rfl)) (rnext_ok  h14 (by first | omega | (simp; done) | (simp; omega)) (by first | omega | (simp; done) | (simp; omega)) ok hAb H11 (by omega) ) ?_)
   rintro _ w21 ⟨zi15, p16, rfl, e22, H18, hp19, hz20⟩
   have E23 := E10.trans e22
   refine lw_v (.int .u64 ((zi15) % 18446744073709551616)) (dv_conv (a := zi15) (z := (zi15) % 18446744073709551616) ui3 ui24 (T rfl rfl) (wr_u64 _)) ?_
   refine lw_v (.int .u64 (bitV .u64 .or ((z * 256) % 18446744073709551616) ((zi15) % 18446744073709551616))) (dv_or (a := (z * 256) % 18446744073709551616) (b := (zi15) % 18446744073709551616) (z := bitV .u64 .or ((z * 256) % 18446744073709551616) ((zi15) % 18446744073709551616)) (T rfl rfl) (T rfl rfl) rfl) ?_
   refine lw_v (.int .u64 (bitV .u64 .or ((z * 256) % 18446744073709551616) ((zi15) % 18446744073709551616))) (dv_assign (T rfl rfl)) ?_
   refine lw_nil ?_
   refine rk_inBlock ?_
   refine rk_reg ?_
   refine lw_v (.int .i64 ((i : Int))) (dv_move (T rfl f9)) ?_
   refine lw_v (.int .i64 (((i : Int)) + 1)) (dv_add (a := (i : Int)) (b := 1) (z := ((i : Int)) + 1) (T rfl rfl) C (wr_i64 (by omega) (by omega))) ?_
   refine lw_v (.int .i64 (((i : Int)) + 1)) (dv_assign (T rfl rfl)) ?_
   refine lw_nil ?_
   have hzr : 0 ≤ bitV .u64 .or ((z * 256) % 18446744073709551616) ((zi15) % 18446744073709551616) ∧ bitV .u64 .or ((z * 256) % 18446744073709551616) ((zi15) % 18446744073709551616) < 18446744073709551616 := by first | omega | exact or_rg64 _ _
   exact ih3 (8 - ((i + 1))) _ _ (by rw [hd12]; omega) ⟨(i + 1), (bitV .u64 .or ((z * 256) % 18446744073709551616) ((zi15) % 18446744073709551616)), p16, rfl, f6, f7, rfl, (vi (by omega)), E23, H18, (by omega), hzr, (by omega)⟩
 · refine rk_cf (T rfl (congrArg Value.bool (decide_eq_false hb13))) ?_
   refine rk_exit rfl ?_
   refine rk_seq ?_
   refine rk_reg ?_
   refine lw_v (.int .u64 z) (dv_move (T rfl f8)) ?_
   refine lw_v (.int .u64 z) (dv_assign (T rfl rfl)) ?_
   refine lw_nil ?_
   refine rk_ret Try.func77 (v := .int .u64 z) (res1 Try.results77 (rv_tmp rfl rfl)) ⟨_, rfl, ?_⟩
   exact ⟨z, p, rfl, E10, H11, (by omega), (by first | omega | exact or_rg64 _ _)⟩
set_option maxHeartbeats 1000000 in
theorem rnear_ok {w : World} {lo hi : Int} {br : Nat} {A : Option Addr} {l c : Nat} {xs : List Int} {p : Int} (hx : RdI w .u8 A xs) (hxl : xs.length = l) (hl : l ≤ 1048576) (ok : okW 256 xs) (hAb : xs = [] ∨ ∀ g o, A = some ⟨g, o, none⟩ → g ≠ br) (hB : w.heap[br]? = some (.cells #[.slice A l c, .int .i64 p] 91)) (hp : 0 ≤ p ∧ p ≤ l) (hlo : -2000000000 ≤ lo ∧ lo ≤ 2000000000) (hhi : -2000000000 ≤ hi ∧ hi ≤ 2000000000) : Ct Try.prog 80 [.pointer (some ⟨br, 0, none⟩), .int .i64 lo, .int .i64 hi] w fun v w1 => ∃ (z : Int) (p' : Int), v = .int .i64 z ∧ Bx br w w1 ∧ w1.heap[br]? = some (.cells #[.slice A l c, .int .i64 p'] 91) ∧ (0 ≤ p' ∧ p' ≤ l) ∧ -2000000000 ≤ z ∧ z ≤ 2000000000 := by
 refine ct_run (n := 31) Try.func80 rfl Try.ntmps80 rfl ?_
 have E0 : Bx br w w := Bx.refl _ _
 refine rk_seq ?_
 refine rk_reg ?_
 refine lw_v (.int .i64 0) (dv_assign C) ?_
 refine lw_nil ?_
 refine rk_seq ?_
 refine rk_seq ?_
 refine rk_reg ?_
 refine lw_v (.pointer (some ⟨br, 0, none⟩)) (dv_move (T rfl rfl)) ?_
 refine lw_e (oe_callf (vs := [.pointer (some ⟨br, 0, none⟩), .int .i64 8]) co61 (ar2 (T rfl rfl) C) (rbelow_ok (n := 8) hx (by first | omega | (simp; done) | (simp; omega)) (by first | omega | (simp; done) | (simp; omega)) ok hAb hB (by omega) ) ?_)
 rintro _ w7 ⟨zi1, p2, rfl, e8, H4, hp5, hz6⟩
 have E9 := E0.trans e8
 refine lw_nil ?_
 refine rk_block ?_
 refine rk_seq ?_
 refine rk_reg ?_
 refine lw_v (.bool (decide (zi1 = 0))) (dv_eql (a := zi1) (b := 0) (T rfl rfl) C) ?_
 refine lw_v (.bool (decide (zi1 = 0))) (dv_assign (T rfl rfl)) ?_
 refine lw_nil ?_
 by_cases hb10 : zi1 = 0
 · refine rk_ct (T rfl (congrArg Value.bool (decide_eq_true hb10))) ?_
   refine rk_seq ?_
   refine rk_reg ?_
   refine lw_v (.int .i64 lo) (dv_move (T rfl rfl)) ?_
   refine lw_v (.int .i64 lo) (dv_assign (T rfl rfl)) ?_
   refine lw_nil ?_
   refine rk_ret Try.func80 (v := .int .i64 lo) (res1 Try.results80 (rv_tmp rfl rfl)) ⟨_, rfl, ?_⟩
   exact ⟨lo, p2, rfl, E9, H4, (by omega), (by omega)⟩
 · refine rk_cf (T rfl (congrArg Value.bool (decide_eq_false hb10))) ?_
   refine rk_seq ?_
   refine rk_reg ?_
   refine lw_v (.bool (decide (zi1 = 1))) (dv_eql (a := zi1) (b := 1) (T rfl rfl) C) ?_
   refine lw_v (.bool (decide (zi1 = 1))) (dv_assign (T rfl rfl)) ?_
   refine lw_nil ?_
   by_cases hb11 : zi1 = 1
   · refine rk_ct (T rfl (congrArg Value.bool (decide_eq_true hb11))) ?_
     refine rk_seq ?_
     refine rk_reg ?_
     refine lw_v (.int .i64 hi) (dv_move (T rfl rfl)) ?_
     refine lw_v (.int .i64 hi) (dv_assign (T rfl rfl)) ?_
     refine lw_nil ?_
     refine rk_ret Try.func80 (v := .int .i64 hi) (res1 Try.results80 (rv_tmp rfl rfl)) ⟨_, rfl, ?_⟩
     exact ⟨hi, p2, rfl, E9, H4, (by omega), (by omega)⟩
   · refine rk_cf (T rfl (congrArg Value.bool (decide_eq_false hb11))) ?_
     refine rk_skip ?_
     refine rk_inBlock ?_
     refine rk_seq ?_
     refine rk_seq ?_
     refine rk_reg ?_
     refine lw_v (.int .i64 hi) (dv_move (T rfl rfl)) ?_
     refine lw_v (.int .i64 lo) (dv_move (T rfl rfl)) ?_
     refine lw_v (.bool (decide (hi < lo))) (dv_lss (a := hi) (b := lo) (T rfl rfl) (T rfl rfl)) ?_
     refine lw_nil ?_
     by_cases hb12 : hi < lo
     · refine rk_ct (T rfl (congrArg Value.bool (decide_eq_true hb12))) ?_
       refine rk_seq ?_
       refine rk_reg ?_
       refine lw_v (.int .i64 lo) (dv_move (T rfl rfl)) ?_
       refine lw_v (.int .i64 lo) (dv_assign (T rfl rfl)) ?_
       refine lw_nil ?_
       refine rk_ret Try.func80 (v := .int .i64 lo) (res1 Try.results80 (rv_tmp rfl rfl)) ⟨_, rfl, ?_⟩
       exact ⟨lo, p2, rfl, E9, H4, (by omega), (by omega)⟩
     · refine rk_cf (T rfl (congrArg Value.bool (decide_eq_false hb12))) ?_
       refine rk_skip ?_
       refine rk_seq ?_
       refine rk_reg ?_
       refine lw_v (.int .i64 lo) (dv_move (T rfl rfl)) ?_
       refine lw_v (.pointer (some ⟨br, 0, none⟩)) (dv_move (T rfl rfl)) ?_
       have h13 := hx.bx E9 hAb
       refine lw_e (oe_callf (vs := [.pointer (some ⟨br, 0, none⟩)]) co77 (ar1 (T rfl rfl)) (rword_ok  h13 (by first | omega | (simp; done) | (simp; omega)) (by first | omega | (simp; done) | (simp; omega)) ok hAb H4 (by omega) ) ?_)
       rintro _ w20 ⟨zu14, p15, rfl, e21, H17, hp18, hz19⟩
       have E22 := E9.trans e21
       refine lw_v (.int .u64 (zu14 / 2)) (dv_shr (a := zu14) (b := 1) (z := zu14 / 2) (T rfl rfl) C (by decide) (shr_c (n := 1) (by omega) (by decide))) ?_
       refine lw_v (.int .i64 hi) (dv_move (T rfl rfl)) ?_
       refine lw_v (.int .i64 lo) (dv_move (T rfl rfl)) ?_
       refine lw_v (.int .i64 (hi - lo)) (dv_sub (a := hi) (b := lo) (z := hi - lo) (T rfl rfl) (T rfl rfl) (wr_i64 (by omega) (by omega))) ?_
       refine lw_v (.int .i64 ((hi - lo) + 1)) (dv_add (a := hi - lo) (b := 1) (z := (hi - lo) + 1) (T rfl rfl) C (wr_i64 (by omega) (by omega))) ?_
       refine lw_v (.int .u64 ((hi - lo) + 1)) (dv_conv (a := (hi - lo) + 1) (z := (hi - lo) + 1) ui2 ui24 (T rfl rfl) (wn_u64 (by omega) (by omega))) ?_
       have := Int.emod_nonneg (zu14 / 2) (show ((hi - lo) + 1) ≠ 0 by omega); have := Int.emod_lt_of_pos (zu14 / 2) (show 0 < ((hi - lo) + 1) by omega)
       refine lw_v (.int .u64 ((zu14 / 2) % ((hi - lo) + 1))) (dv_rem (a := zu14 / 2) (b := (hi - lo) + 1) (z := (zu14 / 2) % ((hi - lo) + 1)) (T rfl rfl) (T rfl rfl) (by omega) (rem_c (by omega) rfl)) ?_
       refine lw_v (.int .i64 ((zu14 / 2) % ((hi - lo) + 1))) (dv_conv (a := (zu14 / 2) % ((hi - lo) + 1)) (z := (zu14 / 2) % ((hi - lo) + 1)) ui24 ui2 (T rfl rfl) (wr_i64 (by omega) (by omega))) ?_
       refine lw_v (.int .i64 (lo + ((zu14 / 2) % ((hi - lo) + 1)))) (dv_add (a := lo) (b := (zu14 / 2) % ((hi - lo) + 1)) (z := lo + ((zu14 / 2) % ((hi - lo) + 1))) (T rfl rfl) (T rfl rfl) (wr_i64 (by omega) (by omega))) ?_
       refine lw_v (.int .i64 (lo + ((zu14 / 2) % ((hi - lo) + 1)))) (dv_assign (T rfl rfl)) ?_
       refine lw_nil ?_
       refine rk_ret Try.func80 (v := .int .i64 (lo + ((zu14 / 2) % ((hi - lo) + 1)))) (res1 Try.results80 (rv_tmp rfl rfl)) ⟨_, rfl, ?_⟩
       exact ⟨lo + ((zu14 / 2) % ((hi - lo) + 1)), p15, rfl, E22, H17, (by omega), (by omega)⟩
end Go.Proofs.Ytfmkadgjoechnaa.W
set_option linter.unusedVariables false
set_option linter.unusedSimpArgs false
namespace Go.Proofs.Ytfmkadgjoechnaa.W
open Go Go.RowKit Go.Proofs.Ytfmkadgjoechnaa.Fw
attribute [local irreducible] RunK LW AW DV OE Ct
theorem agt2 : aggB Try.prog 2 = some false := by kernel_rfl
theorem co45 : callOk Try.prog 45 = true := by kernel_rfl
theorem co80 : callOk Try.prog 80 = true := by kernel_rfl
theorem pl91 : placesB Try.prog 91 = some [(0, 1), (1, 1)] := by kernel_rfl
theorem sz2 : sizeB Try.prog 2 = some 1 := by kernel_rfl
theorem us33 : Try.prog.underlying 33 = some (.slice 26) := by kernel_rfl
theorem us92 : Try.prog.underlying 92 = some (.slice 2) := by kernel_rfl
theorem zc2 : zcB Try.prog 2 = some [.int .i64 0] := by kernel_rfl
theorem zc91 : zcB Try.prog 91 = some [.slice none 0 0, .int .i64 0] := by kernel_rfl
set_option maxHeartbeats 1000000 in
theorem iWideOf_ok {w : World} {x : Int}  (hx : -9223372036854775808 ≤ x ∧ x < 9223372036854775808) : Ct Try.prog 22 [.int .i64 x] w fun v w1 => v = .agg #[.int .u64 (wv3 x), .int .u64 (wv2 x), .int .u64 (wv1 x), .int .u64 (wv0 x)] ∧ Ext w w1 := by
 refine ct_run (n := 12) Try.func22 rfl Try.ntmps22 rfl ?_
 have E0 : Below w.heap.size w w := Below.refl _ _
 refine rk_seq ?_
 refine rk_reg ?_
 refine lw_e (oe_alloc ze26 ?_)
 intro b1 w2 n3
 have N4 : w.heap.size ≤ b1 := n3.eq ▸ E0.size
 have E5 := below_ext E0 E0.size n3.ext
 refine lw_nil ?_
 refine rk_seq ?_
 refine rk_reg ?_
 refine lw_v (.int .i64 x) (dv_move (T rfl rfl)) ?_
 refine lw_e (oe_callf (vs := [.int .i64 x]) co57 (ar1 (T rfl rfl)) (whole_ok  (by omega)) ?_)
 rintro _ w11 ⟨nr6, A7, n8, c9, rfl, e12, h10⟩
 have E13 := below_ext E5 E5.size e12
 have lh10 := Num.len (by decide) h10
 refine lw_e (oe_callf (vs := [.agg #[.bool nr6, .slice A7 n8 c9]]) co51 (ar1 (T rfl rfl)) (nwide_ok h10 (by first | decide | omega)) ?_)
 rintro _ w15 ⟨rfl, e16⟩
 have E17 := below_ext E13 E13.size e16
 have bw14 := w_rg (x)
 refine lw_v (.tuple #[.agg #[.int .u64 (wv3 x), .int .u64 (wv2 x), .int .u64 (wv1 x), .int .u64 (wv0 x)], .bool (decide (fits x))]) (dv_move (T rfl rfl)) ?_
 refine lw_v (.agg #[.int .u64 (wv3 x), .int .u64 (wv2 x), .int .u64 (wv1 x), .int .u64 (wv0 x)]) (dv_extract (vs := #[.agg #[.int .u64 (wv3 x), .int .u64 (wv2 x), .int .u64 (wv1 x), .int .u64 (wv0 x)], .bool (decide (fits x))]) (T rfl rfl) rfl) ?_
 refine lw_v (.bool (decide (fits x))) (dv_extract (vs := #[.agg #[.int .u64 (wv3 x), .int .u64 (wv2 x), .int .u64 (wv1 x), .int .u64 (wv0 x)], .bool (decide (fits x))]) (T rfl rfl) rfl) ?_
 refine lw_e (oe_alloc ze26 ?_)
 intro b18 w19 n20
 have N21 : w.heap.size ≤ b18 := n20.eq ▸ E17.size
 have H22 := (e16.blk (e12.blk n3.blk))
 have : b1 < b18 := n20.eq ▸ lt_of_blk H22
 have E23 := below_ext E17 E17.size n20.ext
 refine lw_e (oe_store (v := .agg #[.int .u64 (wv3 x), .int .u64 (wv2 x), .int .u64 (wv1 x), .int .u64 (wv0 x)]) (vs := [.int .u64 (wv3 x), .int .u64 (wv2 x), .int .u64 (wv1 x), .int .u64 (wv0 x)]) (l := [.int .u64 (wv3 x), .int .u64 (wv2 x), .int .u64 (wv1 x), .int .u64 (wv0 x)]) (T rfl rfl) (T rfl rfl) sz26 rfl rfl rfl n20.blk rfl ?_)
 intro w24 s25 H26
 have E27 := below_st E23 N21 s25
 refine lw_v (.bool (decide (fits x))) (dv_assign (T rfl rfl)) ?_
 refine lw_nil ?_
 refine rk_seq ?_
 refine rk_reg ?_
 refine lw_v (.agg #[.int .u64 (wv3 x), .int .u64 (wv2 x), .int .u64 (wv1 x), .int .u64 (wv0 x)]) (dv_loads (l := [.int .u64 (wv3 x), .int .u64 (wv2 x), .int .u64 (wv1 x), .int .u64 (wv0 x)]) agt26 sz26 (T rfl rfl) H26 rfl) ?_
 have H28 := (s25.blk (n20.ext.blk H22) (by omega))
 refine lw_e (oe_store (v := .agg #[.int .u64 (wv3 x), .int .u64 (wv2 x), .int .u64 (wv1 x), .int .u64 (wv0 x)]) (vs := [.int .u64 (wv3 x), .int .u64 (wv2 x), .int .u64 (wv1 x), .int .u64 (wv0 x)]) (l := [.int .u64 (wv3 x), .int .u64 (wv2 x), .int .u64 (wv1 x), .int .u64 (wv0 x)]) (T rfl rfl) (T rfl rfl) sz26 rfl rfl rfl H28 rfl ?_)
 intro w29 s30 H31
 have E32 := below_st E27 N4 s30
 refine lw_nil ?_
 refine rk_ret Try.func22 (v := .agg #[.int .u64 (wv3 x), .int .u64 (wv2 x), .int .u64 (wv1 x), .int .u64 (wv0 x)]) (res1 Try.results22 (rv_cells (l := [.int .u64 (wv3 x), .int .u64 (wv2 x), .int .u64 (wv1 x), .int .u64 (wv0 x)]) agt26 sz26 rfl rfl H31 rfl)) ⟨_, rfl, ?_⟩
 exact ⟨rfl, E32⟩
set_option maxHeartbeats 1000000 in
theorem sWideOf_ok {w : World} {x : Int}  (hx : -9223372036854775808 ≤ x ∧ x < 9223372036854775808) : Ct Try.prog 60 [.int .i64 x] w fun v w1 => v = .agg #[.int .u64 (wv3 x), .int .u64 (wv2 x), .int .u64 (wv1 x), .int .u64 (wv0 x)] ∧ Ext w w1 := by
 refine ct_run (n := 12) Try.func60 rfl Try.ntmps60 rfl ?_
 have E0 : Below w.heap.size w w := Below.refl _ _
 refine rk_seq ?_
 refine rk_reg ?_
 refine lw_e (oe_alloc ze26 ?_)
 intro b1 w2 n3
 have N4 : w.heap.size ≤ b1 := n3.eq ▸ E0.size
 have E5 := below_ext E0 E0.size n3.ext
 refine lw_nil ?_
 refine rk_seq ?_
 refine rk_reg ?_
 refine lw_v (.int .i64 x) (dv_move (T rfl rfl)) ?_
 refine lw_e (oe_callf (vs := [.int .i64 x]) co79 (ar1 (T rfl rfl)) (l1Int_ok  (by omega)) ?_)
 rintro _ w11 ⟨nr6, A7, n8, c9, rfl, e12, h10⟩
 have E13 := below_ext E5 E5.size e12
 have lh10 := Num.len (by decide) h10
 refine lw_e (oe_callf (vs := [.agg #[.bool nr6, .slice A7 n8 c9]]) co54 (ar1 (T rfl rfl)) (l1Wide_ok h10 (by first | decide | omega)) ?_)
 rintro _ w15 ⟨rfl, e16⟩
 have E17 := below_ext E13 E13.size e16
 have bw14 := w_rg (x)
 refine lw_v (.tuple #[.agg #[.int .u64 (wv3 x), .int .u64 (wv2 x), .int .u64 (wv1 x), .int .u64 (wv0 x)], .bool (decide (fits x))]) (dv_move (T rfl rfl)) ?_
 refine lw_v (.agg #[.int .u64 (wv3 x), .int .u64 (wv2 x), .int .u64 (wv1 x), .int .u64 (wv0 x)]) (dv_extract (vs := #[.agg #[.int .u64 (wv3 x), .int .u64 (wv2 x), .int .u64 (wv1 x), .int .u64 (wv0 x)], .bool (decide (fits x))]) (T rfl rfl) rfl) ?_
 refine lw_v (.bool (decide (fits x))) (dv_extract (vs := #[.agg #[.int .u64 (wv3 x), .int .u64 (wv2 x), .int .u64 (wv1 x), .int .u64 (wv0 x)], .bool (decide (fits x))]) (T rfl rfl) rfl) ?_
 refine lw_e (oe_alloc ze26 ?_)
 intro b18 w19 n20
 have N21 : w.heap.size ≤ b18 := n20.eq ▸ E17.size
 have H22 := (e16.blk (e12.blk n3.blk))
 have : b1 < b18 := n20.eq ▸ lt_of_blk H22
 have E23 := below_ext E17 E17.size n20.ext
 refine lw_e (oe_store (v := .agg #[.int .u64 (wv3 x), .int .u64 (wv2 x), .int .u64 (wv1 x), .int .u64 (wv0 x)]) (vs := [.int .u64 (wv3 x), .int .u64 (wv2 x), .int .u64 (wv1 x), .int .u64 (wv0 x)]) (l := [.int .u64 (wv3 x), .int .u64 (wv2 x), .int .u64 (wv1 x), .int .u64 (wv0 x)]) (T rfl rfl) (T rfl rfl) sz26 rfl rfl rfl n20.blk rfl ?_)
 intro w24 s25 H26
 have E27 := below_st E23 N21 s25
 refine lw_v (.bool (decide (fits x))) (dv_assign (T rfl rfl)) ?_
 refine lw_nil ?_
 refine rk_seq ?_
 refine rk_reg ?_
 refine lw_v (.agg #[.int .u64 (wv3 x), .int .u64 (wv2 x), .int .u64 (wv1 x), .int .u64 (wv0 x)]) (dv_loads (l := [.int .u64 (wv3 x), .int .u64 (wv2 x), .int .u64 (wv1 x), .int .u64 (wv0 x)]) agt26 sz26 (T rfl rfl) H26 rfl) ?_
 have H28 := (s25.blk (n20.ext.blk H22) (by omega))
 refine lw_e (oe_store (v := .agg #[.int .u64 (wv3 x), .int .u64 (wv2 x), .int .u64 (wv1 x), .int .u64 (wv0 x)]) (vs := [.int .u64 (wv3 x), .int .u64 (wv2 x), .int .u64 (wv1 x), .int .u64 (wv0 x)]) (l := [.int .u64 (wv3 x), .int .u64 (wv2 x), .int .u64 (wv1 x), .int .u64 (wv0 x)]) (T rfl rfl) (T rfl rfl) sz26 rfl rfl rfl H28 rfl ?_)
 intro w29 s30 H31
 have E32 := below_st E27 N4 s30
 refine lw_nil ?_
 refine rk_ret Try.func60 (v := .agg #[.int .u64 (wv3 x), .int .u64 (wv2 x), .int .u64 (wv1 x), .int .u64 (wv0 x)]) (res1 Try.results60 (rv_cells (l := [.int .u64 (wv3 x), .int .u64 (wv2 x), .int .u64 (wv1 x), .int .u64 (wv0 x)]) agt26 sz26 rfl rfl H31 rfl)) ⟨_, rfl, ?_⟩
 exact ⟨rfl, E32⟩
set_option maxHeartbeats 1000000 in
theorem rwide_ok {w : World}  {br : Nat} {A : Option Addr} {l c : Nat} {xs : List Int} {p : Int} (hx : RdI w .u8 A xs) (hxl : xs.length = l) (hl : l ≤ 1048576) (ok : okW 256 xs) (hAb : xs = [] ∨ ∀ g o, A = some ⟨g, o, none⟩ → g ≠ br) (hB : w.heap[br]? = some (.cells #[.slice A l c, .int .i64 p] 91)) (hp : 0 ≤ p ∧ p ≤ l)  : Ct Try.prog 44 [.pointer (some ⟨br, 0, none⟩)] w fun v w1 => ∃ (z : Int) (p' : Int), v = .agg #[.int .u64 (wv3 z), .int .u64 (wv2 z), .int .u64 (wv1 z), .int .u64 (wv0 z)] ∧ Bx br w w1 ∧ w1.heap[br]? = some (.cells #[.slice A l c, .int .i64 p'] 91) ∧ (0 ≤ p' ∧ p' ≤ l) ∧ fits z := by
 refine ct_run (n := 85) Try.func44 rfl Try.ntmps44 rfl ?_
 have E0 : Bx br w w := Bx.refl _ _
 refine rk_seq ?_
 refine rk_reg ?_
 refine lw_e (oe_alloc ze26 ?_)
 intro b1 w2 n3
 have N4 : w.heap.size ≤ b1 := n3.eq ▸ E0.size
 have : br < b1 := n3.eq ▸ lt_of_blk hB
 have E5 := bx_ext E0 n3.ext
 refine lw_nil ?_
 refine rk_seq ?_
 refine rk_seq ?_
 refine rk_reg ?_
 refine lw_v (.pointer (some ⟨br, 0, none⟩)) (dv_move (T rfl rfl)) ?_
 have h6 := (hx.ext n3.ext)
 have H7 := (n3.ext.blk hB)
 refine lw_e (oe_callf (vs := [.pointer (some ⟨br, 0, none⟩), .int .i64 9]) co61 (ar2 (T rfl rfl) C) (rbelow_ok (n := 9) h6 (by first | omega | (simp; done) | (simp; omega)) (by first | omega | (simp; done) | (simp; omega)) ok hAb H7 (by omega) ) ?_)
 rintro _ w14 ⟨zi8, p9, rfl, e15, H11, hp12, hz13⟩
 have E16 := E5.trans e15
 refine lw_nil ?_
 refine rk_block ?_
 refine rk_seq ?_
 refine rk_reg ?_
 refine lw_v (.bool (decide (zi8 = 0))) (dv_eql (a := zi8) (b := 0) (T rfl rfl) C) ?_
 refine lw_v (.bool (decide (zi8 = 0))) (dv_assign (T rfl rfl)) ?_
 refine lw_nil ?_
 by_cases hb17 : zi8 = 0
 · refine rk_ct (T rfl (congrArg Value.bool (decide_eq_true hb17))) ?_
   refine rk_seq ?_
   refine rk_reg ?_
   refine lw_e (oe_buildSlice (pv := [(0, .int .i64 0), (1, .int .i64 1), (2, .int .i64 (-1)), (3, .int .i64 2), (4, .int .i64 10), (5, .int .i64 (-9223372036854775808)), (6, .int .i64 9223372036854775807)]) (init := [.int .i64 0, .int .i64 0, .int .i64 0, .int .i64 0, .int .i64 0, .int .i64 0, .int .i64 0]) (l := [.int .i64 0, .int .i64 1, .int .i64 (-1), .int .i64 2, .int .i64 10, .int .i64 (-9223372036854775808), .int .i64 9223372036854775807]) us92 sz2 rfl rfl zc2 (by kernel_rfl) ⟨rfl, C, ⟨rfl, C, ⟨rfl, C, ⟨rfl, C, ⟨rfl, C, ⟨rfl, C, ⟨rfl, C, trivial⟩⟩⟩⟩⟩⟩⟩ rfl ?_)
   intro b18 w19 n20
   have N21 : w.heap.size ≤ b18 := n20.eq ▸ E16.size
   have H22 := (bx_blk e15 n3.blk (by omega))
   have : b1 < b18 := n20.eq ▸ lt_of_blk H22
   have E23 := bx_ext E16 n20.ext
   refine lw_v (.pointer (some ⟨br, 0, none⟩)) (dv_move (T rfl rfl)) ?_
   have h24 := hx.bx E23 hAb
   have H25 := (n20.ext.blk H11)
   refine lw_e (oe_callf (vs := [.pointer (some ⟨br, 0, none⟩), .int .i64 7]) co61 (ar2 (T rfl rfl) C) (rbelow_ok (n := 7) h24 (by first | omega | (simp; done) | (simp; omega)) (by first | omega | (simp; done) | (simp; omega)) ok hAb H25 (by omega) ) ?_)
   rintro _ w32 ⟨zi26, p27, rfl, e33, H29, hp30, hz31⟩
   have E34 := E23.trans e33
   refine lw_v (.pointer (some ⟨b18, zi26.toNat, none⟩)) (dv_indexO (g := b18) (l := 7) (c := 7) (i := zi26.toNat) (j := zi26) us92 sz2 (T rfl rfl) (T rfl rfl) (by omega) (by first | omega | (simp; done) | (simp; omega))) ?_
   have := lit_rg (lo := -9223372036854775808) (hi := 9223372036854775807) (L := [0, 1, (-1), 2, 10, (-9223372036854775808), 9223372036854775807]) (by decide) (by decide) zi26.toNat
   have H35 := (bx_blk e33 n20.blk (by omega))
   refine lw_v (.int .i64 (([0, 1, (-1), 2, 10, (-9223372036854775808), 9223372036854775807]).getD zi26.toNat 0)) (dv_loadW (L := [0, 1, (-1), 2, 10, (-9223372036854775808), 9223372036854775807]) (v := ([0, 1, (-1), 2, 10, (-9223372036854775808), 9223372036854775807]).getD zi26.toNat 0) agt2 (T rfl rfl) H35 (by first | omega | (simp; done) | (simp; omega)) rfl) ?_
   refine lw_e (oe_callf (vs := [.int .i64 (([0, 1, (-1), 2, 10, (-9223372036854775808), 9223372036854775807]).getD zi26.toNat 0)]) co60 (ar1 (T rfl rfl)) (sWideOf_ok (x := ([0, 1, (-1), 2, 10, (-9223372036854775808), 9223372036854775807]).getD zi26.toNat 0)  (by omega)) ?_)
   rintro _ w36 ⟨rfl, e37⟩
   have E38 := bx_ext E34 e37
   have H39 := (e37.blk (bx_blk e33 (n20.ext.blk H22) (by omega)))
   refine lw_e (oe_store (v := .agg #[.int .u64 (wv3 (([0, 1, (-1), 2, 10, (-9223372036854775808), 9223372036854775807]).getD zi26.toNat 0)), .int .u64 (wv2 (([0, 1, (-1), 2, 10, (-9223372036854775808), 9223372036854775807]).getD zi26.toNat 0)), .int .u64 (wv1 (([0, 1, (-1), 2, 10, (-9223372036854775808), 9223372036854775807]).getD zi26.toNat 0)), .int .u64 (wv0 (([0, 1, (-1), 2, 10, (-9223372036854775808), 9223372036854775807]).getD zi26.toNat 0))]) (vs := [.int .u64 (wv3 (([0, 1, (-1), 2, 10, (-9223372036854775808), 9223372036854775807]).getD zi26.toNat 0)), .int .u64 (wv2 (([0, 1, (-1), 2, 10, (-9223372036854775808), 9223372036854775807]).getD zi26.toNat 0)), .int .u64 (wv1 (([0, 1, (-1), 2, 10, (-9223372036854775808), 9223372036854775807]).getD zi26.toNat 0)), .int .u64 (wv0 (([0, 1, (-1), 2, 10, (-9223372036854775808), 9223372036854775807]).getD zi26.toNat 0))]) (l := [.int .u64 (wv3 (([0, 1, (-1), 2, 10, (-9223372036854775808), 9223372036854775807]).getD zi26.toNat 0)), .int .u64 (wv2 (([0, 1, (-1), 2, 10, (-9223372036854775808), 9223372036854775807]).getD zi26.toNat 0)), .int .u64 (wv1 (([0, 1, (-1), 2, 10, (-9223372036854775808), 9223372036854775807]).getD zi26.toNat 0)), .int .u64 (wv0 (([0, 1, (-1), 2, 10, (-9223372036854775808), 9223372036854775807]).getD zi26.toNat 0))]) (T rfl rfl) (T rfl rfl) sz26 rfl rfl rfl H39 rfl ?_)
   intro w40 s41 H42
   have E43 := bx_stN E38 N4 s41
   refine lw_nil ?_
   refine rk_ret Try.func44 (v := .agg #[.int .u64 (wv3 (([0, 1, (-1), 2, 10, (-9223372036854775808), 9223372036854775807]).getD zi26.toNat 0)), .int .u64 (wv2 (([0, 1, (-1), 2, 10, (-9223372036854775808), 9223372036854775807]).getD zi26.toNat 0)), .int .u64 (wv1 (([0, 1, (-1), 2, 10, (-9223372036854775808), 9223372036854775807]).getD zi26.toNat 0)), .int .u64 (wv0 (([0, 1, (-1), 2, 10, (-9223372036854775808), 9223372036854775807]).getD zi26.toNat 0))]) (res1 Try.results44 (rv_cells (l := [.int .u64 (wv3 (([0, 1, (-1), 2, 10, (-9223372036854775808), 9223372036854775807]).getD zi26.toNat 0)), .int .u64 (wv2 (([0, 1, (-1), 2, 10, (-9223372036854775808), 9223372036854775807]).getD zi26.toNat 0)), .int .u64 (wv1 (([0, 1, (-1), 2, 10, (-9223372036854775808), 9223372036854775807]).getD zi26.toNat 0)), .int .u64 (wv0 (([0, 1, (-1), 2, 10, (-9223372036854775808), 9223372036854775807]).getD zi26.toNat 0))]) agt26 sz26 rfl rfl H42 rfl)) ⟨_, rfl, ?_⟩
   have H44 := (s41.blk (e37.blk H29) (by omega))
   exact ⟨([0, 1, (-1), 2, 10, (-9223372036854775808), 9223372036854775807]).getD zi26.toNat 0, p27, (ag4 rfl rfl rfl rfl), E43, H44, (by omega), (fits_i (by omega))⟩
 · refine rk_cf (T rfl (congrArg Value.bool (decide_eq_false hb17))) ?_
   refine rk_seq ?_
   refine rk_reg ?_
   refine lw_v (.bool (decide (zi8 = 1))) (dv_eql (a := zi8) (b := 1) (T rfl rfl) C) ?_
   refine lw_v (.bool (decide (zi8 = 1))) (dv_assign (T rfl rfl)) ?_
   refine lw_nil ?_
   by_cases hb45 : zi8 = 1
   · refine rk_ct (T rfl (congrArg Value.bool (decide_eq_true hb45))) ?_
     refine rk_seq ?_
     refine rk_reg ?_
     refine lw_v (.agg #[.int .u64 9223372036854775808, .int .u64 0, .int .u64 0, .int .u64 0]) (dv_build (pv := [(0, .int .u64 9223372036854775808)]) (l := [.int .u64 9223372036854775808, .int .u64 0, .int .u64 0, .int .u64 0]) zc26 pl26 ⟨rfl, C, trivial⟩ rfl) ?_
     refine lw_v (.agg #[.int .u64 9223372036854775807, .int .u64 18446744073709551615, .int .u64 18446744073709551615, .int .u64 18446744073709551615]) (dv_build (pv := [(0, .int .u64 9223372036854775807), (1, .int .u64 18446744073709551615), (2, .int .u64 18446744073709551615), (3, .int .u64 18446744073709551615)]) (l := [.int .u64 9223372036854775807, .int .u64 18446744073709551615, .int .u64 18446744073709551615, .int .u64 18446744073709551615]) zc26 pl26 ⟨rfl, C, ⟨rfl, C, ⟨rfl, C, ⟨rfl, C, trivial⟩⟩⟩⟩ rfl) ?_
     refine lw_v (.agg #[.int .u64 9223372036854775808, .int .u64 0, .int .u64 0, .int .u64 1]) (dv_build (pv := [(0, .int .u64 9223372036854775808), (3, .int .u64 1)]) (l := [.int .u64 9223372036854775808, .int .u64 0, .int .u64 0, .int .u64 1]) zc26 pl26 ⟨rfl, C, ⟨rfl, C, trivial⟩⟩ rfl) ?_
     refine lw_v (.agg #[.int .u64 4611686018427387904, .int .u64 0, .int .u64 0, .int .u64 0]) (dv_build (pv := [(0, .int .u64 4611686018427387904)]) (l := [.int .u64 4611686018427387904, .int .u64 0, .int .u64 0, .int .u64 0]) zc26 pl26 ⟨rfl, C, trivial⟩ rfl) ?_
     refine lw_v (.agg #[.int .u64 0, .int .u64 1, .int .u64 0, .int .u64 0]) (dv_build (pv := [(1, .int .u64 1)]) (l := [.int .u64 0, .int .u64 1, .int .u64 0, .int .u64 0]) zc26 pl26 ⟨rfl, C, trivial⟩ rfl) ?_
     refine lw_v (.agg #[.int .u64 0, .int .u64 0, .int .u64 1, .int .u64 0]) (dv_build (pv := [(2, .int .u64 1)]) (l := [.int .u64 0, .int .u64 0, .int .u64 1, .int .u64 0]) zc26 pl26 ⟨rfl, C, trivial⟩ rfl) ?_
     refine lw_e (oe_buildSlice (pv := [(0, .agg #[.int .u64 9223372036854775808, .int .u64 0, .int .u64 0, .int .u64 0]), (1, .agg #[.int .u64 9223372036854775807, .int .u64 18446744073709551615, .int .u64 18446744073709551615, .int .u64 18446744073709551615]), (2, .agg #[.int .u64 9223372036854775808, .int .u64 0, .int .u64 0, .int .u64 1]), (3, .agg #[.int .u64 4611686018427387904, .int .u64 0, .int .u64 0, .int .u64 0]), (4, .agg #[.int .u64 0, .int .u64 1, .int .u64 0, .int .u64 0]), (5, .agg #[.int .u64 0, .int .u64 0, .int .u64 1, .int .u64 0])]) (init := [.int .u64 0, .int .u64 0, .int .u64 0, .int .u64 0, .int .u64 0, .int .u64 0, .int .u64 0, .int .u64 0, .int .u64 0, .int .u64 0, .int .u64 0, .int .u64 0, .int .u64 0, .int .u64 0, .int .u64 0, .int .u64 0, .int .u64 0, .int .u64 0, .int .u64 0, .int .u64 0, .int .u64 0, .int .u64 0, .int .u64 0, .int .u64 0]) (l := [.int .u64 9223372036854775808, .int .u64 0, .int .u64 0, .int .u64 0, .int .u64 9223372036854775807, .int .u64 18446744073709551615, .int .u64 18446744073709551615, .int .u64 18446744073709551615, .int .u64 9223372036854775808, .int .u64 0, .int .u64 0, .int .u64 1, .int .u64 4611686018427387904, .int .u64 0, .int .u64 0, .int .u64 0, .int .u64 0, .int .u64 1, .int .u64 0, .int .u64 0, .int .u64 0, .int .u64 0, .int .u64 1, .int .u64 0]) us33 sz26 rfl rfl zc26 (by kernel_rfl) ⟨rfl, (T rfl rfl), ⟨rfl, (T rfl rfl), ⟨rfl, (T rfl rfl), ⟨rfl, (T rfl rfl), ⟨rfl, (T rfl rfl), ⟨rfl, (T rfl rfl), trivial⟩⟩⟩⟩⟩⟩ rfl ?_)
     intro b46 w47 n48
     have N49 : w.heap.size ≤ b46 := n48.eq ▸ E16.size
     have H50 := (bx_blk e15 n3.blk (by omega))
     have : b1 < b46 := n48.eq ▸ lt_of_blk H50
     have E51 := bx_ext E16 n48.ext
     refine lw_v (.pointer (some ⟨br, 0, none⟩)) (dv_move (T rfl rfl)) ?_
     have h52 := hx.bx E51 hAb
     have H53 := (n48.ext.blk H11)
     refine lw_e (oe_callf (vs := [.pointer (some ⟨br, 0, none⟩), .int .i64 6]) co61 (ar2 (T rfl rfl) C) (rbelow_ok (n := 6) h52 (by first | omega | (simp; done) | (simp; omega)) (by first | omega | (simp; done) | (simp; omega)) ok hAb H53 (by omega) ) ?_)
     rintro _ w60 ⟨zi54, p55, rfl, e61, H57, hp58, hz59⟩
     have E62 := E51.trans e61
     refine lw_v (.pointer (some ⟨b46, (zi54.toNat * 4), none⟩)) (dv_indexOM (g := b46) (l := 6) (c := 6) (i := zi54.toNat) (j := zi54) (m := 4) us33 sz26 (T rfl rfl) (T rfl rfl) (by omega) (by first | omega | (simp; done) | (simp; omega))) ?_
     have H63 := (bx_blk e61 n48.blk (by omega))
     refine lw_v (.agg #[.int .u64 (([9223372036854775808, 0, 0, 0, 9223372036854775807, 18446744073709551615, 18446744073709551615, 18446744073709551615, 9223372036854775808, 0, 0, 1, 4611686018427387904, 0, 0, 0, 0, 1, 0, 0, 0, 0, 1, 0]).getD (zi54.toNat * 4) 0), .int .u64 (([9223372036854775808, 0, 0, 0, 9223372036854775807, 18446744073709551615, 18446744073709551615, 18446744073709551615, 9223372036854775808, 0, 0, 1, 4611686018427387904, 0, 0, 0, 0, 1, 0, 0, 0, 0, 1, 0]).getD (zi54.toNat * 4 + 1) 0), .int .u64 (([9223372036854775808, 0, 0, 0, 9223372036854775807, 18446744073709551615, 18446744073709551615, 18446744073709551615, 9223372036854775808, 0, 0, 1, 4611686018427387904, 0, 0, 0, 0, 1, 0, 0, 0, 0, 1, 0]).getD (zi54.toNat * 4 + 2) 0), .int .u64 (([9223372036854775808, 0, 0, 0, 9223372036854775807, 18446744073709551615, 18446744073709551615, 18446744073709551615, 9223372036854775808, 0, 0, 1, 4611686018427387904, 0, 0, 0, 0, 1, 0, 0, 0, 0, 1, 0]).getD (zi54.toNat * 4 + 3) 0)]) (dv_loadsO (i := zi54.toNat * 4) (m := 4) (k := .u64) (L := [9223372036854775808, 0, 0, 0, 9223372036854775807, 18446744073709551615, 18446744073709551615, 18446744073709551615, 9223372036854775808, 0, 0, 1, 4611686018427387904, 0, 0, 0, 0, 1, 0, 0, 0, 0, 1, 0]) (l := [.int .u64 (([9223372036854775808, 0, 0, 0, 9223372036854775807, 18446744073709551615, 18446744073709551615, 18446744073709551615, 9223372036854775808, 0, 0, 1, 4611686018427387904, 0, 0, 0, 0, 1, 0, 0, 0, 0, 1, 0]).getD (zi54.toNat * 4) 0), .int .u64 (([9223372036854775808, 0, 0, 0, 9223372036854775807, 18446744073709551615, 18446744073709551615, 18446744073709551615, 9223372036854775808, 0, 0, 1, 4611686018427387904, 0, 0, 0, 0, 1, 0, 0, 0, 0, 1, 0]).getD (zi54.toNat * 4 + 1) 0), .int .u64 (([9223372036854775808, 0, 0, 0, 9223372036854775807, 18446744073709551615, 18446744073709551615, 18446744073709551615, 9223372036854775808, 0, 0, 1, 4611686018427387904, 0, 0, 0, 0, 1, 0, 0, 0, 0, 1, 0]).getD (zi54.toNat * 4 + 2) 0), .int .u64 (([9223372036854775808, 0, 0, 0, 9223372036854775807, 18446744073709551615, 18446744073709551615, 18446744073709551615, 9223372036854775808, 0, 0, 1, 4611686018427387904, 0, 0, 0, 0, 1, 0, 0, 0, 0, 1, 0]).getD (zi54.toNat * 4 + 3) 0)]) agt26 sz26 (T rfl rfl) H63 (by first | omega | (simp; done) | (simp; omega)) rfl) ?_
     have H64 := (bx_blk e61 (n48.ext.blk H50) (by omega))
     refine lw_e (oe_store (v := .agg #[.int .u64 (([9223372036854775808, 0, 0, 0, 9223372036854775807, 18446744073709551615, 18446744073709551615, 18446744073709551615, 9223372036854775808, 0, 0, 1, 4611686018427387904, 0, 0, 0, 0, 1, 0, 0, 0, 0, 1, 0]).getD (zi54.toNat * 4) 0), .int .u64 (([9223372036854775808, 0, 0, 0, 9223372036854775807, 18446744073709551615, 18446744073709551615, 18446744073709551615, 9223372036854775808, 0, 0, 1, 4611686018427387904, 0, 0, 0, 0, 1, 0, 0, 0, 0, 1, 0]).getD (zi54.toNat * 4 + 1) 0), .int .u64 (([9223372036854775808, 0, 0, 0, 9223372036854775807, 18446744073709551615, 18446744073709551615, 18446744073709551615, 9223372036854775808, 0, 0, 1, 4611686018427387904, 0, 0, 0, 0, 1, 0, 0, 0, 0, 1, 0]).getD (zi54.toNat * 4 + 2) 0), .int .u64 (([9223372036854775808, 0, 0, 0, 9223372036854775807, 18446744073709551615, 18446744073709551615, 18446744073709551615, 9223372036854775808, 0, 0, 1, 4611686018427387904, 0, 0, 0, 0, 1, 0, 0, 0, 0, 1, 0]).getD (zi54.toNat * 4 + 3) 0)]) (vs := [.int .u64 (([9223372036854775808, 0, 0, 0, 9223372036854775807, 18446744073709551615, 18446744073709551615, 18446744073709551615, 9223372036854775808, 0, 0, 1, 4611686018427387904, 0, 0, 0, 0, 1, 0, 0, 0, 0, 1, 0]).getD (zi54.toNat * 4) 0), .int .u64 (([9223372036854775808, 0, 0, 0, 9223372036854775807, 18446744073709551615, 18446744073709551615, 18446744073709551615, 9223372036854775808, 0, 0, 1, 4611686018427387904, 0, 0, 0, 0, 1, 0, 0, 0, 0, 1, 0]).getD (zi54.toNat * 4 + 1) 0), .int .u64 (([9223372036854775808, 0, 0, 0, 9223372036854775807, 18446744073709551615, 18446744073709551615, 18446744073709551615, 9223372036854775808, 0, 0, 1, 4611686018427387904, 0, 0, 0, 0, 1, 0, 0, 0, 0, 1, 0]).getD (zi54.toNat * 4 + 2) 0), .int .u64 (([9223372036854775808, 0, 0, 0, 9223372036854775807, 18446744073709551615, 18446744073709551615, 18446744073709551615, 9223372036854775808, 0, 0, 1, 4611686018427387904, 0, 0, 0, 0, 1, 0, 0, 0, 0, 1, 0]).getD (zi54.toNat * 4 + 3) 0)]) (l := [.int .u64 (([9223372036854775808, 0, 0, 0, 9223372036854775807, 18446744073709551615, 18446744073709551615, 18446744073709551615, 9223372036854775808, 0, 0, 1, 4611686018427387904, 0, 0, 0, 0, 1, 0, 0, 0, 0, 1, 0]).getD (zi54.toNat * 4) 0), .int .u64 (([9223372036854775808, 0, 0, 0, 9223372036854775807, 18446744073709551615, 18446744073709551615, 18446744073709551615, 9223372036854775808, 0, 0, 1, 4611686018427387904, 0, 0, 0, 0, 1, 0, 0, 0, 0, 1, 0]).getD (zi54.toNat * 4 + 1) 0), .int .u64 (([9223372036854775808, 0, 0, 0, 9223372036854775807, 18446744073709551615, 18446744073709551615, 18446744073709551615, 9223372036854775808, 0, 0, 1, 4611686018427387904, 0, 0, 0, 0, 1, 0, 0, 0, 0, 1, 0]).getD (zi54.toNat * 4 + 2) 0), .int .u64 (([9223372036854775808, 0, 0, 0, 9223372036854775807, 18446744073709551615, 18446744073709551615, 18446744073709551615, 9223372036854775808, 0, 0, 1, 4611686018427387904, 0, 0, 0, 0, 1, 0, 0, 0, 0, 1, 0]).getD (zi54.toNat * 4 + 3) 0)]) (T rfl rfl) (T rfl rfl) sz26 rfl rfl rfl H64 rfl ?_)
     intro w65 s66 H67
     have E68 := bx_stN E62 N4 s66
     refine lw_nil ?_
     refine rk_ret Try.func44 (v := .agg #[.int .u64 (([9223372036854775808, 0, 0, 0, 9223372036854775807, 18446744073709551615, 18446744073709551615, 18446744073709551615, 9223372036854775808, 0, 0, 1, 4611686018427387904, 0, 0, 0, 0, 1, 0, 0, 0, 0, 1, 0]).getD (zi54.toNat * 4) 0), .int .u64 (([9223372036854775808, 0, 0, 0, 9223372036854775807, 18446744073709551615, 18446744073709551615, 18446744073709551615, 9223372036854775808, 0, 0, 1, 4611686018427387904, 0, 0, 0, 0, 1, 0, 0, 0, 0, 1, 0]).getD (zi54.toNat * 4 + 1) 0), .int .u64 (([9223372036854775808, 0, 0, 0, 9223372036854775807, 18446744073709551615, 18446744073709551615, 18446744073709551615, 9223372036854775808, 0, 0, 1, 4611686018427387904, 0, 0, 0, 0, 1, 0, 0, 0, 0, 1, 0]).getD (zi54.toNat * 4 + 2) 0), .int .u64 (([9223372036854775808, 0, 0, 0, 9223372036854775807, 18446744073709551615, 18446744073709551615, 18446744073709551615, 9223372036854775808, 0, 0, 1, 4611686018427387904, 0, 0, 0, 0, 1, 0, 0, 0, 0, 1, 0]).getD (zi54.toNat * 4 + 3) 0)]) (res1 Try.results44 (rv_cells (l := [.int .u64 (([9223372036854775808, 0, 0, 0, 9223372036854775807, 18446744073709551615, 18446744073709551615, 18446744073709551615, 9223372036854775808, 0, 0, 1, 4611686018427387904, 0, 0, 0, 0, 1, 0, 0, 0, 0, 1, 0]).getD (zi54.toNat * 4) 0), .int .u64 (([9223372036854775808, 0, 0, 0, 9223372036854775807, 18446744073709551615, 18446744073709551615, 18446744073709551615, 9223372036854775808, 0, 0, 1, 4611686018427387904, 0, 0, 0, 0, 1, 0, 0, 0, 0, 1, 0]).getD (zi54.toNat * 4 + 1) 0), .int .u64 (([9223372036854775808, 0, 0, 0, 9223372036854775807, 18446744073709551615, 18446744073709551615, 18446744073709551615, 9223372036854775808, 0, 0, 1, 4611686018427387904, 0, 0, 0, 0, 1, 0, 0, 0, 0, 1, 0]).getD (zi54.toNat * 4 + 2) 0), .int .u64 (([9223372036854775808, 0, 0, 0, 9223372036854775807, 18446744073709551615, 18446744073709551615, 18446744073709551615, 9223372036854775808, 0, 0, 1, 4611686018427387904, 0, 0, 0, 0, 1, 0, 0, 0, 0, 1, 0]).getD (zi54.toNat * 4 + 3) 0)]) agt26 sz26 rfl rfl H67 rfl)) ⟨_, rfl, ?_⟩
     have H69 := (s66.blk H57 (by omega))
     obtain ⟨zw70, hf75, he71, he72, he73, he74⟩ := words_z (a3 := ([9223372036854775808, 0, 0, 0, 9223372036854775807, 18446744073709551615, 18446744073709551615, 18446744073709551615, 9223372036854775808, 0, 0, 1, 4611686018427387904, 0, 0, 0, 0, 1, 0, 0, 0, 0, 1, 0]).getD (zi54.toNat * 4) 0) (a2 := ([9223372036854775808, 0, 0, 0, 9223372036854775807, 18446744073709551615, 18446744073709551615, 18446744073709551615, 9223372036854775808, 0, 0, 1, 4611686018427387904, 0, 0, 0, 0, 1, 0, 0, 0, 0, 1, 0]).getD (zi54.toNat * 4 + 1) 0) (a1 := ([9223372036854775808, 0, 0, 0, 9223372036854775807, 18446744073709551615, 18446744073709551615, 18446744073709551615, 9223372036854775808, 0, 0, 1, 4611686018427387904, 0, 0, 0, 0, 1, 0, 0, 0, 0, 1, 0]).getD (zi54.toNat * 4 + 2) 0) (a0 := ([9223372036854775808, 0, 0, 0, 9223372036854775807, 18446744073709551615, 18446744073709551615, 18446744073709551615, 9223372036854775808, 0, 0, 1, 4611686018427387904, 0, 0, 0, 0, 1, 0, 0, 0, 0, 1, 0]).getD (zi54.toNat * 4 + 3) 0) (by first | omega | exact (w_rg _).1 | exact (w_rg _).2.1 | exact (w_rg _).2.2.1 | exact (w_rg _).2.2.2 | exact shr_rg (by omega) | exact okW.getD (okW_lit (by decide)) (by decide) _) (by first | omega | exact (w_rg _).1 | exact (w_rg _).2.1 | exact (w_rg _).2.2.1 | exact (w_rg _).2.2.2 | exact shr_rg (by omega) | exact okW.getD (okW_lit (by decide)) (by decide) _) (by first | omega | exact (w_rg _).1 | exact (w_rg _).2.1 | exact (w_rg _).2.2.1 | exact (w_rg _).2.2.2 | exact shr_rg (by omega) | exact okW.getD (okW_lit (by decide)) (by decide) _) (by first | omega | exact (w_rg _).1 | exact (w_rg _).2.1 | exact (w_rg _).2.2.1 | exact (w_rg _).2.2.2 | exact shr_rg (by omega) | exact okW.getD (okW_lit (by decide)) (by decide) _)
     exact ⟨zw70, p55, (ag4 (vi he71) (vi he72) (vi he73) (vi he74)), E68, H69, (by omega), hf75⟩
   · refine rk_cf (T rfl (congrArg Value.bool (decide_eq_false hb45))) ?_
     refine rk_seq ?_
     refine rk_reg ?_
     refine lw_v (.bool (decide (zi8 = 2))) (dv_eql (a := zi8) (b := 2) (T rfl rfl) C) ?_
     refine lw_v (.bool (decide (zi8 = 2))) (dv_assign (T rfl rfl)) ?_
     refine lw_nil ?_
     by_cases hb76 : zi8 = 2
     · refine rk_ct (T rfl (congrArg Value.bool (decide_eq_true hb76))) ?_
       refine rk_seq ?_
       refine rk_reg ?_
       refine lw_v (.pointer (some ⟨br, 0, none⟩)) (dv_move (T rfl rfl)) ?_
       have h77 := hx.bx E16 hAb
       refine lw_e (oe_callf (vs := [.pointer (some ⟨br, 0, none⟩), .int .i64 2]) co45 (ar2 (T rfl rfl) C) (ronce_ok (n := 2) h77 (by first | omega | (simp; done) | (simp; omega)) (by first | omega | (simp; done) | (simp; omega)) ok hAb H11 (by omega) (by omega)) ?_)
       rintro _ w84 ⟨zb78, p79, rfl, e85, H81, hp82, _⟩
       have E86 := E16.trans e85
       refine lw_e (oe_buildSlice (pv := [(0, .int .u32 1)]) (init := [.int .u32 0]) (l := [.int .u32 1]) us63 sz95 rfl rfl zc95 (by kernel_rfl) ⟨rfl, C, trivial⟩ rfl ?_)
       intro b87 w88 n89
       have N90 : w.heap.size ≤ b87 := n89.eq ▸ E86.size
       have H91 := (bx_blk e85 (bx_blk e15 n3.blk (by omega)) (by omega))
       have : b1 < b87 := n89.eq ▸ lt_of_blk H91
       have E92 := bx_ext E86 n89.ext
       refine lw_v (.pointer (some ⟨br, 0, none⟩)) (dv_move (T rfl rfl)) ?_
       have h93 := hx.bx E92 hAb
       have H94 := (n89.ext.blk H81)
       refine lw_e (oe_callf (vs := [.pointer (some ⟨br, 0, none⟩), .int .i64 255]) co61 (ar2 (T rfl rfl) C) (rbelow_ok (n := 255) h93 (by first | omega | (simp; done) | (simp; omega)) (by first | omega | (simp; done) | (simp; omega)) ok hAb H94 (by omega) ) ?_)
       rintro _ w101 ⟨zi95, p96, rfl, e102, H98, hp99, hz100⟩
       have E103 := E92.trans e102
       have H104 := (bx_blk e102 n89.blk (by omega))
       refine lw_e (oe_callf (vs := [.slice (some ⟨b87, 0, none⟩) 1 1, .int .i64 zi95]) co76 (ar2 (T rfl rfl) (T rfl rfl)) (l1Left_ws (N := zi95.toNat) (j := zi95) (⟨[1], rfl, Nat.le_refl _, Wd.ownW H104, (okW_lit (by simp <;> omega)), rfl⟩ : Ws _ _ _ _ _ _ _ _) (by first | omega | (simp; done) | (simp; omega)) (by first | omega | (simp; done) | (simp; omega)) (valB_sz (m := 32) (xs := [1]) (n := 1) (okW_lit (by simp <;> omega)) rfl) (by omega)) ?_)
       rintro _ w109 ⟨A105, n106, c107, rfl, e110, h108⟩
       have E111 := bx_ext E103 e110
       have lh108 := Wc.len (by decide) h108 (left_sz (m := zi95.toNat) (s := 32) rfl (valB_sz (m := 32) (xs := [1]) (n := 1) (okW_lit (by simp <;> omega)) rfl))
       refine lw_e (oe_callf (vs := [.bool zb78, .slice A105 n106 c107]) co75 (ar2 (T rfl rfl) (T rfl rfl)) (l1Trim_num (s := (32 + zi95.toNat)) (neg := zb78) h108.ws (by first | omega | (simp; done) | (simp; omega)) (left_sz (m := zi95.toNat) (s := 32) rfl (valB_sz (m := 32) (xs := [1]) (n := 1) (okW_lit (by simp <;> omega)) rfl))) ?_)
       rintro _ w117 ⟨nb112, A113, n114, c115, rfl, e118, hn116⟩
       have E119 := bx_ext E111 e118
       have lhn116 := Num.len (by decide) hn116
       refine lw_e (oe_callf (vs := [.agg #[.bool nb112, .slice A113 n114 c115]]) co54 (ar1 (T rfl rfl)) (l1Wide_ok hn116 (by first | decide | omega)) ?_)
       rintro _ w121 ⟨rfl, e122⟩
       have E123 := bx_ext E119 e122
       have bw120 := w_rg (sg zb78 (2 ^ zi95.toNat * (valB (2 ^ 32) [1])))
       refine lw_v (.tuple #[.agg #[.int .u64 (wv3 (sg zb78 (2 ^ zi95.toNat * (valB (2 ^ 32) [1])))), .int .u64 (wv2 (sg zb78 (2 ^ zi95.toNat * (valB (2 ^ 32) [1])))), .int .u64 (wv1 (sg zb78 (2 ^ zi95.toNat * (valB (2 ^ 32) [1])))), .int .u64 (wv0 (sg zb78 (2 ^ zi95.toNat * (valB (2 ^ 32) [1]))))], .bool (decide (fits (sg zb78 (2 ^ zi95.toNat * (valB (2 ^ 32) [1])))))]) (dv_move (T rfl rfl)) ?_
       refine lw_v (.agg #[.int .u64 (wv3 (sg zb78 (2 ^ zi95.toNat * (valB (2 ^ 32) [1])))), .int .u64 (wv2 (sg zb78 (2 ^ zi95.toNat * (valB (2 ^ 32) [1])))), .int .u64 (wv1 (sg zb78 (2 ^ zi95.toNat * (valB (2 ^ 32) [1])))), .int .u64 (wv0 (sg zb78 (2 ^ zi95.toNat * (valB (2 ^ 32) [1]))))]) (dv_extract (vs := #[.agg #[.int .u64 (wv3 (sg zb78 (2 ^ zi95.toNat * (valB (2 ^ 32) [1])))), .int .u64 (wv2 (sg zb78 (2 ^ zi95.toNat * (valB (2 ^ 32) [1])))), .int .u64 (wv1 (sg zb78 (2 ^ zi95.toNat * (valB (2 ^ 32) [1])))), .int .u64 (wv0 (sg zb78 (2 ^ zi95.toNat * (valB (2 ^ 32) [1]))))], .bool (decide (fits (sg zb78 (2 ^ zi95.toNat * (valB (2 ^ 32) [1])))))]) (T rfl rfl) rfl) ?_
       refine lw_v (.bool (decide (fits (sg zb78 (2 ^ zi95.toNat * (valB (2 ^ 32) [1])))))) (dv_extract (vs := #[.agg #[.int .u64 (wv3 (sg zb78 (2 ^ zi95.toNat * (valB (2 ^ 32) [1])))), .int .u64 (wv2 (sg zb78 (2 ^ zi95.toNat * (valB (2 ^ 32) [1])))), .int .u64 (wv1 (sg zb78 (2 ^ zi95.toNat * (valB (2 ^ 32) [1])))), .int .u64 (wv0 (sg zb78 (2 ^ zi95.toNat * (valB (2 ^ 32) [1]))))], .bool (decide (fits (sg zb78 (2 ^ zi95.toNat * (valB (2 ^ 32) [1])))))]) (T rfl rfl) rfl) ?_
       refine lw_e (oe_alloc ze26 ?_)
       intro b124 w125 n126
       have N127 : w.heap.size ≤ b124 := n126.eq ▸ E123.size
       have H128 := (e122.blk (e118.blk (e110.blk H104)))
       have : b87 < b124 := n126.eq ▸ lt_of_blk H128
       have E129 := bx_ext E123 n126.ext
       refine lw_e (oe_store (v := .agg #[.int .u64 (wv3 (sg zb78 (2 ^ zi95.toNat * (valB (2 ^ 32) [1])))), .int .u64 (wv2 (sg zb78 (2 ^ zi95.toNat * (valB (2 ^ 32) [1])))), .int .u64 (wv1 (sg zb78 (2 ^ zi95.toNat * (valB (2 ^ 32) [1])))), .int .u64 (wv0 (sg zb78 (2 ^ zi95.toNat * (valB (2 ^ 32) [1]))))]) (vs := [.int .u64 (wv3 (sg zb78 (2 ^ zi95.toNat * (valB (2 ^ 32) [1])))), .int .u64 (wv2 (sg zb78 (2 ^ zi95.toNat * (valB (2 ^ 32) [1])))), .int .u64 (wv1 (sg zb78 (2 ^ zi95.toNat * (valB (2 ^ 32) [1])))), .int .u64 (wv0 (sg zb78 (2 ^ zi95.toNat * (valB (2 ^ 32) [1]))))]) (l := [.int .u64 (wv3 (sg zb78 (2 ^ zi95.toNat * (valB (2 ^ 32) [1])))), .int .u64 (wv2 (sg zb78 (2 ^ zi95.toNat * (valB (2 ^ 32) [1])))), .int .u64 (wv1 (sg zb78 (2 ^ zi95.toNat * (valB (2 ^ 32) [1])))), .int .u64 (wv0 (sg zb78 (2 ^ zi95.toNat * (valB (2 ^ 32) [1]))))]) (T rfl rfl) (T rfl rfl) sz26 rfl rfl rfl n126.blk rfl ?_)
       intro w130 s131 H132
       have E133 := bx_stN E129 N127 s131
       refine lw_v (.bool (decide (fits (sg zb78 (2 ^ zi95.toNat * (valB (2 ^ 32) [1])))))) (dv_assign (T rfl rfl)) ?_
       refine lw_nil ?_
       refine rk_seq ?_
       refine rk_reg ?_
       refine lw_v (.agg #[.int .u64 (wv3 (sg zb78 (2 ^ zi95.toNat * (valB (2 ^ 32) [1])))), .int .u64 (wv2 (sg zb78 (2 ^ zi95.toNat * (valB (2 ^ 32) [1])))), .int .u64 (wv1 (sg zb78 (2 ^ zi95.toNat * (valB (2 ^ 32) [1])))), .int .u64 (wv0 (sg zb78 (2 ^ zi95.toNat * (valB (2 ^ 32) [1]))))]) (dv_loads (l := [.int .u64 (wv3 (sg zb78 (2 ^ zi95.toNat * (valB (2 ^ 32) [1])))), .int .u64 (wv2 (sg zb78 (2 ^ zi95.toNat * (valB (2 ^ 32) [1])))), .int .u64 (wv1 (sg zb78 (2 ^ zi95.toNat * (valB (2 ^ 32) [1])))), .int .u64 (wv0 (sg zb78 (2 ^ zi95.toNat * (valB (2 ^ 32) [1]))))]) agt26 sz26 (T rfl rfl) H132 rfl) ?_
       have H134 := (s131.blk (n126.ext.blk (e122.blk (e118.blk (e110.blk (bx_blk e102 (n89.ext.blk H91) (by omega)))))) (by omega))
       refine lw_e (oe_store (v := .agg #[.int .u64 (wv3 (sg zb78 (2 ^ zi95.toNat * (valB (2 ^ 32) [1])))), .int .u64 (wv2 (sg zb78 (2 ^ zi95.toNat * (valB (2 ^ 32) [1])))), .int .u64 (wv1 (sg zb78 (2 ^ zi95.toNat * (valB (2 ^ 32) [1])))), .int .u64 (wv0 (sg zb78 (2 ^ zi95.toNat * (valB (2 ^ 32) [1]))))]) (vs := [.int .u64 (wv3 (sg zb78 (2 ^ zi95.toNat * (valB (2 ^ 32) [1])))), .int .u64 (wv2 (sg zb78 (2 ^ zi95.toNat * (valB (2 ^ 32) [1])))), .int .u64 (wv1 (sg zb78 (2 ^ zi95.toNat * (valB (2 ^ 32) [1])))), .int .u64 (wv0 (sg zb78 (2 ^ zi95.toNat * (valB (2 ^ 32) [1]))))]) (l := [.int .u64 (wv3 (sg zb78 (2 ^ zi95.toNat * (valB (2 ^ 32) [1])))), .int .u64 (wv2 (sg zb78 (2 ^ zi95.toNat * (valB (2 ^ 32) [1])))), .int .u64 (wv1 (sg zb78 (2 ^ zi95.toNat * (valB (2 ^ 32) [1])))), .int .u64 (wv0 (sg zb78 (2 ^ zi95.toNat * (valB (2 ^ 32) [1]))))]) (T rfl rfl) (T rfl rfl) sz26 rfl rfl rfl H134 rfl ?_)
       intro w135 s136 H137
       have E138 := bx_stN E133 N4 s136
       refine lw_nil ?_
       refine rk_ret Try.func44 (v := .agg #[.int .u64 (wv3 (sg zb78 (2 ^ zi95.toNat * (valB (2 ^ 32) [1])))), .int .u64 (wv2 (sg zb78 (2 ^ zi95.toNat * (valB (2 ^ 32) [1])))), .int .u64 (wv1 (sg zb78 (2 ^ zi95.toNat * (valB (2 ^ 32) [1])))), .int .u64 (wv0 (sg zb78 (2 ^ zi95.toNat * (valB (2 ^ 32) [1]))))]) (res1 Try.results44 (rv_cells (l := [.int .u64 (wv3 (sg zb78 (2 ^ zi95.toNat * (valB (2 ^ 32) [1])))), .int .u64 (wv2 (sg zb78 (2 ^ zi95.toNat * (valB (2 ^ 32) [1])))), .int .u64 (wv1 (sg zb78 (2 ^ zi95.toNat * (valB (2 ^ 32) [1])))), .int .u64 (wv0 (sg zb78 (2 ^ zi95.toNat * (valB (2 ^ 32) [1]))))]) agt26 sz26 rfl rfl H137 rfl)) ⟨_, rfl, ?_⟩
       have H139 := (s136.blk (s131.blk (n126.ext.blk (e122.blk (e118.blk (e110.blk H98)))) (by omega)) (by omega))
       obtain ⟨zw140, hf145, he141, he142, he143, he144⟩ := words_z (a3 := wv3 (sg zb78 (2 ^ zi95.toNat * (valB (2 ^ 32) [1])))) (a2 := wv2 (sg zb78 (2 ^ zi95.toNat * (valB (2 ^ 32) [1])))) (a1 := wv1 (sg zb78 (2 ^ zi95.toNat * (valB (2 ^ 32) [1])))) (a0 := wv0 (sg zb78 (2 ^ zi95.toNat * (valB (2 ^ 32) [1])))) (by first | omega | exact (w_rg _).1 | exact (w_rg _).2.1 | exact (w_rg _).2.2.1 | exact (w_rg _).2.2.2 | exact shr_rg (by omega) | exact okW.getD (okW_lit (by decide)) (by decide) _) (by first | omega | exact (w_rg _).1 | exact (w_rg _).2.1 | exact (w_rg _).2.2.1 | exact (w_rg _).2.2.2 | exact shr_rg (by omega) | exact okW.getD (okW_lit (by decide)) (by decide) _) (by first | omega | exact (w_rg _).1 | exact (w_rg _).2.1 | exact (w_rg _).2.2.1 | exact (w_rg _).2.2.2 | exact shr_rg (by omega) | exact okW.getD (okW_lit (by decide)) (by decide) _) (by first | omega | exact (w_rg _).1 | exact (w_rg _).2.1 | exact (w_rg _).2.2.1 | exact (w_rg _).2.2.2 | exact shr_rg (by omega) | exact okW.getD (okW_lit (by decide)) (by decide) _)
       exact ⟨zw140, p96, (ag4 (vi he141) (vi he142) (vi he143) (vi he144)), E138, H139, (by omega), hf145⟩
     · refine rk_cf (T rfl (congrArg Value.bool (decide_eq_false hb76))) ?_
       refine rk_seq ?_
       refine rk_reg ?_
       refine lw_v (.bool (decide (zi8 = 3))) (dv_eql (a := zi8) (b := 3) (T rfl rfl) C) ?_
       refine lw_v (.bool (decide (zi8 = 3))) (dv_assign (T rfl rfl)) ?_
       refine lw_nil ?_
       by_cases hb146 : zi8 = 3
       · refine rk_ct (T rfl (congrArg Value.bool (decide_eq_true hb146))) ?_
         refine rk_seq ?_
         refine rk_reg ?_
         refine lw_v (.pointer (some ⟨br, 0, none⟩)) (dv_move (T rfl rfl)) ?_
         have h147 := hx.bx E16 hAb
         refine lw_e (oe_callf (vs := [.pointer (some ⟨br, 0, none⟩)]) co77 (ar1 (T rfl rfl)) (rword_ok  h147 (by first | omega | (simp; done) | (simp; omega)) (by first | omega | (simp; done) | (simp; omega)) ok hAb H11 (by omega) ) ?_)
         rintro _ w154 ⟨zu148, p149, rfl, e155, H151, hp152, hz153⟩
         have E156 := E16.trans e155
         refine lw_v (.pointer (some ⟨br, 0, none⟩)) (dv_move (T rfl rfl)) ?_
         have h157 := hx.bx E156 hAb
         refine lw_e (oe_callf (vs := [.pointer (some ⟨br, 0, none⟩)]) co77 (ar1 (T rfl rfl)) (rword_ok  h157 (by first | omega | (simp; done) | (simp; omega)) (by first | omega | (simp; done) | (simp; omega)) ok hAb H151 (by omega) ) ?_)
         rintro _ w164 ⟨zu158, p159, rfl, e165, H161, hp162, hz163⟩
         have E166 := E156.trans e165
         refine lw_v (.pointer (some ⟨br, 0, none⟩)) (dv_move (T rfl rfl)) ?_
         have h167 := hx.bx E166 hAb
         refine lw_e (oe_callf (vs := [.pointer (some ⟨br, 0, none⟩)]) co77 (ar1 (T rfl rfl)) (rword_ok  h167 (by first | omega | (simp; done) | (simp; omega)) (by first | omega | (simp; done) | (simp; omega)) ok hAb H161 (by omega) ) ?_)
         rintro _ w174 ⟨zu168, p169, rfl, e175, H171, hp172, hz173⟩
         have E176 := E166.trans e175
         refine lw_v (.pointer (some ⟨br, 0, none⟩)) (dv_move (T rfl rfl)) ?_
         have h177 := hx.bx E176 hAb
         refine lw_e (oe_callf (vs := [.pointer (some ⟨br, 0, none⟩)]) co77 (ar1 (T rfl rfl)) (rword_ok  h177 (by first | omega | (simp; done) | (simp; omega)) (by first | omega | (simp; done) | (simp; omega)) ok hAb H171 (by omega) ) ?_)
         rintro _ w184 ⟨zu178, p179, rfl, e185, H181, hp182, hz183⟩
         have E186 := E176.trans e185
         refine lw_v (.agg #[.int .u64 zu148, .int .u64 zu158, .int .u64 zu168, .int .u64 zu178]) (dv_build (pv := [(0, .int .u64 zu148), (1, .int .u64 zu158), (2, .int .u64 zu168), (3, .int .u64 zu178)]) (l := [.int .u64 zu148, .int .u64 zu158, .int .u64 zu168, .int .u64 zu178]) zc26 pl26 ⟨rfl, (T rfl rfl), ⟨rfl, (T rfl rfl), ⟨rfl, (T rfl rfl), ⟨rfl, (T rfl rfl), trivial⟩⟩⟩⟩ rfl) ?_
         have H187 := (bx_blk e185 (bx_blk e175 (bx_blk e165 (bx_blk e155 (bx_blk e15 n3.blk (by omega)) (by omega)) (by omega)) (by omega)) (by omega))
         refine lw_e (oe_store (v := .agg #[.int .u64 zu148, .int .u64 zu158, .int .u64 zu168, .int .u64 zu178]) (vs := [.int .u64 zu148, .int .u64 zu158, .int .u64 zu168, .int .u64 zu178]) (l := [.int .u64 zu148, .int .u64 zu158, .int .u64 zu168, .int .u64 zu178]) (T rfl rfl) (T rfl rfl) sz26 rfl rfl rfl H187 rfl ?_)
         intro w188 s189 H190
         have E191 := bx_stN E186 N4 s189
         refine lw_nil ?_
         refine rk_ret Try.func44 (v := .agg #[.int .u64 zu148, .int .u64 zu158, .int .u64 zu168, .int .u64 zu178]) (res1 Try.results44 (rv_cells (l := [.int .u64 zu148, .int .u64 zu158, .int .u64 zu168, .int .u64 zu178]) agt26 sz26 rfl rfl H190 rfl)) ⟨_, rfl, ?_⟩
         have H192 := (s189.blk H181 (by omega))
         obtain ⟨zw193, hf198, he194, he195, he196, he197⟩ := words_z (a3 := zu148) (a2 := zu158) (a1 := zu168) (a0 := zu178) (by first | omega | exact (w_rg _).1 | exact (w_rg _).2.1 | exact (w_rg _).2.2.1 | exact (w_rg _).2.2.2 | exact shr_rg (by omega) | exact okW.getD (okW_lit (by decide)) (by decide) _) (by first | omega | exact (w_rg _).1 | exact (w_rg _).2.1 | exact (w_rg _).2.2.1 | exact (w_rg _).2.2.2 | exact shr_rg (by omega) | exact okW.getD (okW_lit (by decide)) (by decide) _) (by first | omega | exact (w_rg _).1 | exact (w_rg _).2.1 | exact (w_rg _).2.2.1 | exact (w_rg _).2.2.2 | exact shr_rg (by omega) | exact okW.getD (okW_lit (by decide)) (by decide) _) (by first | omega | exact (w_rg _).1 | exact (w_rg _).2.1 | exact (w_rg _).2.2.1 | exact (w_rg _).2.2.2 | exact shr_rg (by omega) | exact okW.getD (okW_lit (by decide)) (by decide) _)
         exact ⟨zw193, p179, (ag4 (vi he194) (vi he195) (vi he196) (vi he197)), E191, H192, (by omega), hf198⟩
       · refine rk_cf (T rfl (congrArg Value.bool (decide_eq_false hb146))) ?_
         refine rk_seq ?_
         refine rk_reg ?_
         refine lw_v (.bool (decide (zi8 = 4))) (dv_eql (a := zi8) (b := 4) (T rfl rfl) C) ?_
         refine lw_v (.bool (decide (zi8 = 4))) (dv_assign (T rfl rfl)) ?_
         refine lw_nil ?_
         by_cases hb199 : zi8 = 4
         · refine rk_ct (T rfl (congrArg Value.bool (decide_eq_true hb199))) ?_
           refine rk_seq ?_
           refine rk_reg ?_
           refine lw_v (.pointer (some ⟨br, 0, none⟩)) (dv_move (T rfl rfl)) ?_
           have h200 := hx.bx E16 hAb
           refine lw_e (oe_callf (vs := [.pointer (some ⟨br, 0, none⟩)]) co77 (ar1 (T rfl rfl)) (rword_ok  h200 (by first | omega | (simp; done) | (simp; omega)) (by first | omega | (simp; done) | (simp; omega)) ok hAb H11 (by omega) ) ?_)
           rintro _ w207 ⟨zu201, p202, rfl, e208, H204, hp205, hz206⟩
           have E209 := E16.trans e208
           refine lw_v (.pointer (some ⟨br, 0, none⟩)) (dv_move (T rfl rfl)) ?_
           have h210 := hx.bx E209 hAb
           refine lw_e (oe_callf (vs := [.pointer (some ⟨br, 0, none⟩), .int .i64 64]) co61 (ar2 (T rfl rfl) C) (rbelow_ok (n := 64) h210 (by first | omega | (simp; done) | (simp; omega)) (by first | omega | (simp; done) | (simp; omega)) ok hAb H204 (by omega) ) ?_)
           rintro _ w217 ⟨zi211, p212, rfl, e218, H214, hp215, hz216⟩
           have E219 := E209.trans e218
           refine lw_v (.int .u64 zi211) (dv_conv (a := zi211) (z := zi211) ui3 ui97 (T rfl rfl) (wn_u64 (by omega) (by omega))) ?_
           refine lw_v (.int .u64 (zu201 / 2 ^ zi211.toNat)) (dv_shr (a := zu201) (b := zi211) (z := zu201 / 2 ^ zi211.toNat) (T rfl rfl) (T rfl rfl) (by omega) (shr_v (K := zi211.toNat) (by omega) (show _ ≤ 64 by omega))) ?_
           refine lw_v (.pointer (some ⟨br, 0, none⟩)) (dv_move (T rfl rfl)) ?_
           have h220 := hx.bx E219 hAb
           refine lw_e (oe_callf (vs := [.pointer (some ⟨br, 0, none⟩)]) co77 (ar1 (T rfl rfl)) (rword_ok  h220 (by first | omega | (simp; done) | (simp; omega)) (by first | omega | (simp; done) | (simp; omega)) ok hAb H214 (by omega) ) ?_)
           rintro _ w227 ⟨zu221, p222, rfl, e228, H224, hp225, hz226⟩
           have E229 := E219.trans e228
           refine lw_v (.agg #[.int .u64 0, .int .u64 0, .int .u64 (zu201 / 2 ^ zi211.toNat), .int .u64 zu221]) (dv_build (pv := [(2, .int .u64 (zu201 / 2 ^ zi211.toNat)), (3, .int .u64 zu221)]) (l := [.int .u64 0, .int .u64 0, .int .u64 (zu201 / 2 ^ zi211.toNat), .int .u64 zu221]) zc26 pl26 ⟨rfl, (T rfl rfl), ⟨rfl, (T rfl rfl), trivial⟩⟩ rfl) ?_
           have H230 := (bx_blk e228 (bx_blk e218 (bx_blk e208 (bx_blk e15 n3.blk (by omega)) (by omega)) (by omega)) (by omega))
           refine lw_e (oe_store (v := .agg #[.int .u64 0, .int .u64 0, .int .u64 (zu201 / 2 ^ zi211.toNat), .int .u64 zu221]) (vs := [.int .u64 0, .int .u64 0, .int .u64 (zu201 / 2 ^ zi211.toNat), .int .u64 zu221]) (l := [.int .u64 0, .int .u64 0, .int .u64 (zu201 / 2 ^ zi211.toNat), .int .u64 zu221]) (T rfl rfl) (T rfl rfl) sz26 rfl rfl rfl H230 rfl ?_)
           intro w231 s232 H233
           have E234 := bx_stN E229 N4 s232
           refine lw_nil ?_
           refine rk_ret Try.func44 (v := .agg #[.int .u64 0, .int .u64 0, .int .u64 (zu201 / 2 ^ zi211.toNat), .int .u64 zu221]) (res1 Try.results44 (rv_cells (l := [.int .u64 0, .int .u64 0, .int .u64 (zu201 / 2 ^ zi211.toNat), .int .u64 zu221]) agt26 sz26 rfl rfl H233 rfl)) ⟨_, rfl, ?_⟩
           have H235 := (s232.blk H224 (by omega))
           obtain ⟨zw236, hf241, he237, he238, he239, he240⟩ := words_z (a3 := 0) (a2 := 0) (a1 := zu201 / 2 ^ zi211.toNat) (a0 := zu221) (by first | omega | exact (w_rg _).1 | exact (w_rg _).2.1 | exact (w_rg _).2.2.1 | exact (w_rg _).2.2.2 | exact shr_rg (by omega) | exact okW.getD (okW_lit (by decide)) (by decide) _) (by first | omega | exact (w_rg _).1 | exact (w_rg _).2.1 | exact (w_rg _).2.2.1 | exact (w_rg _).2.2.2 | exact shr_rg (by omega) | exact okW.getD (okW_lit (by decide)) (by decide) _) (by first | omega | exact (w_rg _).1 | exact (w_rg _).2.1 | exact (w_rg _).2.2.1 | exact (w_rg _).2.2.2 | exact shr_rg (by omega) | exact okW.getD (okW_lit (by decide)) (by decide) _) (by first | omega | exact (w_rg _).1 | exact (w_rg _).2.1 | exact (w_rg _).2.2.1 | exact (w_rg _).2.2.2 | exact shr_rg (by omega) | exact okW.getD (okW_lit (by decide)) (by decide) _)
           exact ⟨zw236, p222, (ag4 (vi he237) (vi he238) (vi he239) (vi he240)), E234, H235, (by omega), hf241⟩
         · refine rk_cf (T rfl (congrArg Value.bool (decide_eq_false hb199))) ?_
           refine rk_seq ?_
           refine rk_reg ?_
           refine lw_v (.bool (decide (zi8 = 5))) (dv_eql (a := zi8) (b := 5) (T rfl rfl) C) ?_
           refine lw_v (.bool (decide (zi8 = 5))) (dv_assign (T rfl rfl)) ?_
           refine lw_nil ?_
           by_cases hb242 : zi8 = 5
           · refine rk_ct (T rfl (congrArg Value.bool (decide_eq_true hb242))) ?_
             refine rk_seq ?_
             refine rk_reg ?_
             refine lw_v (.pointer (some ⟨br, 0, none⟩)) (dv_move (T rfl rfl)) ?_
             have h243 := hx.bx E16 hAb
             refine lw_e (oe_callf (vs := [.pointer (some ⟨br, 0, none⟩)]) co77 (ar1 (T rfl rfl)) (rword_ok  h243 (by first | omega | (simp; done) | (simp; omega)) (by first | omega | (simp; done) | (simp; omega)) ok hAb H11 (by omega) ) ?_)
             rintro _ w250 ⟨zu244, p245, rfl, e251, H247, hp248, hz249⟩
             have E252 := E16.trans e251
             have := wrap_rgi zu244
             refine lw_v (.int .i64 (IntKind.i64.wrap zu244)) (dv_conv (a := zu244) (z := IntKind.i64.wrap zu244) ui24 ui2 (T rfl rfl) rfl) ?_
             refine lw_e (oe_callf (vs := [.int .i64 (IntKind.i64.wrap zu244)]) co79 (ar1 (T rfl rfl)) (l1Int_ok  (by omega)) ?_)
             rintro _ w258 ⟨nr253, A254, n255, c256, rfl, e259, h257⟩
             have E260 := bx_ext E252 e259
             have lh257 := Num.len (by decide) h257
             refine lw_v (.pointer (some ⟨br, 0, none⟩)) (dv_move (T rfl rfl)) ?_
             have h261 := hx.bx E260 hAb
             have H262 := (e259.blk H247)
             refine lw_e (oe_callf (vs := [.pointer (some ⟨br, 0, none⟩)]) co77 (ar1 (T rfl rfl)) (rword_ok  h261 (by first | omega | (simp; done) | (simp; omega)) (by first | omega | (simp; done) | (simp; omega)) ok hAb H262 (by omega) ) ?_)
             rintro _ w269 ⟨zu263, p264, rfl, e270, H266, hp267, hz268⟩
             have E271 := E260.trans e270
             have := wrap_rgi zu263
             refine lw_v (.int .i64 (IntKind.i64.wrap zu263)) (dv_conv (a := zu263) (z := IntKind.i64.wrap zu263) ui24 ui2 (T rfl rfl) rfl) ?_
             refine lw_e (oe_callf (vs := [.int .i64 (IntKind.i64.wrap zu263)]) co79 (ar1 (T rfl rfl)) (l1Int_ok  (by omega)) ?_)
             rintro _ w277 ⟨nr272, A273, n274, c275, rfl, e278, h276⟩
             have E279 := bx_ext E271 e278
             have lh276 := Num.len (by decide) h276
             have h280 := ((h257.bx e270 H262 (by decide)).ext e278)
             refine lw_e (oe_callf (vs := [.agg #[.bool nr253, .slice A254 n255 c256], .agg #[.bool nr272, .slice A273 n274 c275]]) co78 (ar2 (T rfl rfl) (T rfl rfl)) (l1Mul_ok h280 h276 (by first | decide | omega) (by first | decide | omega)) ?_)
             rintro _ w286 ⟨nr281, A282, n283, c284, rfl, e287, h285⟩
             have E288 := bx_ext E279 e287
             have lh285 := Num.len (by decide) h285
             refine lw_e (oe_callf (vs := [.agg #[.bool nr281, .slice A282 n283 c284]]) co54 (ar1 (T rfl rfl)) (l1Wide_ok h285 (by first | decide | omega)) ?_)
             rintro _ w290 ⟨rfl, e291⟩
             have E292 := bx_ext E288 e291
             have bw289 := w_rg ((IntKind.i64.wrap zu244) * (IntKind.i64.wrap zu263))
             refine lw_v (.tuple #[.agg #[.int .u64 (wv3 ((IntKind.i64.wrap zu244) * (IntKind.i64.wrap zu263))), .int .u64 (wv2 ((IntKind.i64.wrap zu244) * (IntKind.i64.wrap zu263))), .int .u64 (wv1 ((IntKind.i64.wrap zu244) * (IntKind.i64.wrap zu263))), .int .u64 (wv0 ((IntKind.i64.wrap zu244) * (IntKind.i64.wrap zu263)))], .bool (decide (fits ((IntKind.i64.wrap zu244) * (IntKind.i64.wrap zu263))))]) (dv_move (T rfl rfl)) ?_
             refine lw_v (.agg #[.int .u64 (wv3 ((IntKind.i64.wrap zu244) * (IntKind.i64.wrap zu263))), .int .u64 (wv2 ((IntKind.i64.wrap zu244) * (IntKind.i64.wrap zu263))), .int .u64 (wv1 ((IntKind.i64.wrap zu244) * (IntKind.i64.wrap zu263))), .int .u64 (wv0 ((IntKind.i64.wrap zu244) * (IntKind.i64.wrap zu263)))]) (dv_extract (vs := #[.agg #[.int .u64 (wv3 ((IntKind.i64.wrap zu244) * (IntKind.i64.wrap zu263))), .int .u64 (wv2 ((IntKind.i64.wrap zu244) * (IntKind.i64.wrap zu263))), .int .u64 (wv1 ((IntKind.i64.wrap zu244) * (IntKind.i64.wrap zu263))), .int .u64 (wv0 ((IntKind.i64.wrap zu244) * (IntKind.i64.wrap zu263)))], .bool (decide (fits ((IntKind.i64.wrap zu244) * (IntKind.i64.wrap zu263))))]) (T rfl rfl) rfl) ?_
             refine lw_v (.bool (decide (fits ((IntKind.i64.wrap zu244) * (IntKind.i64.wrap zu263))))) (dv_extract (vs := #[.agg #[.int .u64 (wv3 ((IntKind.i64.wrap zu244) * (IntKind.i64.wrap zu263))), .int .u64 (wv2 ((IntKind.i64.wrap zu244) * (IntKind.i64.wrap zu263))), .int .u64 (wv1 ((IntKind.i64.wrap zu244) * (IntKind.i64.wrap zu263))), .int .u64 (wv0 ((IntKind.i64.wrap zu244) * (IntKind.i64.wrap zu263)))], .bool (decide (fits ((IntKind.i64.wrap zu244) * (IntKind.i64.wrap zu263))))]) (T rfl rfl) rfl) ?_
             refine lw_e (oe_alloc ze26 ?_)
             intro b293 w294 n295
             have N296 : w.heap.size ≤ b293 := n295.eq ▸ E292.size
             have H297 := (e291.blk (e287.blk (e278.blk (bx_blk e270 (e259.blk (bx_blk e251 (bx_blk e15 n3.blk (by omega)) (by omega))) (by omega)))))
             have : b1 < b293 := n295.eq ▸ lt_of_blk H297
             have E298 := bx_ext E292 n295.ext
             refine lw_e (oe_store (v := .agg #[.int .u64 (wv3 ((IntKind.i64.wrap zu244) * (IntKind.i64.wrap zu263))), .int .u64 (wv2 ((IntKind.i64.wrap zu244) * (IntKind.i64.wrap zu263))), .int .u64 (wv1 ((IntKind.i64.wrap zu244) * (IntKind.i64.wrap zu263))), .int .u64 (wv0 ((IntKind.i64.wrap zu244) * (IntKind.i64.wrap zu263)))]) (vs := [.int .u64 (wv3 ((IntKind.i64.wrap zu244) * (IntKind.i64.wrap zu263))), .int .u64 (wv2 ((IntKind.i64.wrap zu244) * (IntKind.i64.wrap zu263))), .int .u64 (wv1 ((IntKind.i64.wrap zu244) * (IntKind.i64.wrap zu263))), .int .u64 (wv0 ((IntKind.i64.wrap zu244) * (IntKind.i64.wrap zu263)))]) (l := [.int .u64 (wv3 ((IntKind.i64.wrap zu244) * (IntKind.i64.wrap zu263))), .int .u64 (wv2 ((IntKind.i64.wrap zu244) * (IntKind.i64.wrap zu263))), .int .u64 (wv1 ((IntKind.i64.wrap zu244) * (IntKind.i64.wrap zu263))), .int .u64 (wv0 ((IntKind.i64.wrap zu244) * (IntKind.i64.wrap zu263)))]) (T rfl rfl) (T rfl rfl) sz26 rfl rfl rfl n295.blk rfl ?_)
             intro w299 s300 H301
             have E302 := bx_stN E298 N296 s300
             refine lw_v (.bool (decide (fits ((IntKind.i64.wrap zu244) * (IntKind.i64.wrap zu263))))) (dv_assign (T rfl rfl)) ?_
             refine lw_nil ?_
             refine rk_seq ?_
             refine rk_reg ?_
             refine lw_v (.agg #[.int .u64 (wv3 ((IntKind.i64.wrap zu244) * (IntKind.i64.wrap zu263))), .int .u64 (wv2 ((IntKind.i64.wrap zu244) * (IntKind.i64.wrap zu263))), .int .u64 (wv1 ((IntKind.i64.wrap zu244) * (IntKind.i64.wrap zu263))), .int .u64 (wv0 ((IntKind.i64.wrap zu244) * (IntKind.i64.wrap zu263)))]) (dv_loads (l := [.int .u64 (wv3 ((IntKind.i64.wrap zu244) * (IntKind.i64.wrap zu263))), .int .u64 (wv2 ((IntKind.i64.wrap zu244) * (IntKind.i64.wrap zu263))), .int .u64 (wv1 ((IntKind.i64.wrap zu244) * (IntKind.i64.wrap zu263))), .int .u64 (wv0 ((IntKind.i64.wrap zu244) * (IntKind.i64.wrap zu263)))]) agt26 sz26 (T rfl rfl) H301 rfl) ?_
             have H303 := (s300.blk (n295.ext.blk H297) (by omega))
             refine lw_e (oe_store (v := .agg #[.int .u64 (wv3 ((IntKind.i64.wrap zu244) * (IntKind.i64.wrap zu263))), .int .u64 (wv2 ((IntKind.i64.wrap zu244) * (IntKind.i64.wrap zu263))), .int .u64 (wv1 ((IntKind.i64.wrap zu244) * (IntKind.i64.wrap zu263))), .int .u64 (wv0 ((IntKind.i64.wrap zu244) * (IntKind.i64.wrap zu263)))]) (vs := [.int .u64 (wv3 ((IntKind.i64.wrap zu244) * (IntKind.i64.wrap zu263))), .int .u64 (wv2 ((IntKind.i64.wrap zu244) * (IntKind.i64.wrap zu263))), .int .u64 (wv1 ((IntKind.i64.wrap zu244) * (IntKind.i64.wrap zu263))), .int .u64 (wv0 ((IntKind.i64.wrap zu244) * (IntKind.i64.wrap zu263)))]) (l := [.int .u64 (wv3 ((IntKind.i64.wrap zu244) * (IntKind.i64.wrap zu263))), .int .u64 (wv2 ((IntKind.i64.wrap zu244) * (IntKind.i64.wrap zu263))), .int .u64 (wv1 ((IntKind.i64.wrap zu244) * (IntKind.i64.wrap zu263))), .int .u64 (wv0 ((IntKind.i64.wrap zu244) * (IntKind.i64.wrap zu263)))]) (T rfl rfl) (T rfl rfl) sz26 rfl rfl rfl H303 rfl ?_)
             intro w304 s305 H306
             have E307 := bx_stN E302 N4 s305
             refine lw_nil ?_
             refine rk_ret Try.func44 (v := .agg #[.int .u64 (wv3 ((IntKind.i64.wrap zu244) * (IntKind.i64.wrap zu263))), .int .u64 (wv2 ((IntKind.i64.wrap zu244) * (IntKind.i64.wrap zu263))), .int .u64 (wv1 ((IntKind.i64.wrap zu244) * (IntKind.i64.wrap zu263))), .int .u64 (wv0 ((IntKind.i64.wrap zu244) * (IntKind.i64.wrap zu263)))]) (res1 Try.results44 (rv_cells (l := [.int .u64 (wv3 ((IntKind.i64.wrap zu244) * (IntKind.i64.wrap zu263))), .int .u64 (wv2 ((IntKind.i64.wrap zu244) * (IntKind.i64.wrap zu263))), .int .u64 (wv1 ((IntKind.i64.wrap zu244) * (IntKind.i64.wrap zu263))), .int .u64 (wv0 ((IntKind.i64.wrap zu244) * (IntKind.i64.wrap zu263)))]) agt26 sz26 rfl rfl H306 rfl)) ⟨_, rfl, ?_⟩
             have H308 := (s305.blk (s300.blk (n295.ext.blk (e291.blk (e287.blk (e278.blk H266)))) (by omega)) (by omega))
             obtain ⟨zw309, hf314, he310, he311, he312, he313⟩ := words_z (a3 := wv3 ((IntKind.i64.wrap zu244) * (IntKind.i64.wrap zu263))) (a2 := wv2 ((IntKind.i64.wrap zu244) * (IntKind.i64.wrap zu263))) (a1 := wv1 ((IntKind.i64.wrap zu244) * (IntKind.i64.wrap zu263))) (a0 := wv0 ((IntKind.i64.wrap zu244) * (IntKind.i64.wrap zu263))) (by first | omega | exact (w_rg _).1 | exact (w_rg _).2.1 | exact (w_rg _).2.2.1 | exact (w_rg _).2.2.2 | exact shr_rg (by omega) | exact okW.getD (okW_lit (by decide)) (by decide) _) (by first | omega | exact (w_rg _).1 | exact (w_rg _).2.1 | exact (w_rg _).2.2.1 | exact (w_rg _).2.2.2 | exact shr_rg (by omega) | exact okW.getD (okW_lit (by decide)) (by decide) _) (by first | omega | exact (w_rg _).1 | exact (w_rg _).2.1 | exact (w_rg _).2.2.1 | exact (w_rg _).2.2.2 | exact shr_rg (by omega) | exact okW.getD (okW_lit (by decide)) (by decide) _) (by first | omega | exact (w_rg _).1 | exact (w_rg _).2.1 | exact (w_rg _).2.2.1 | exact (w_rg _).2.2.2 | exact shr_rg (by omega) | exact okW.getD (okW_lit (by decide)) (by decide) _)
             exact ⟨zw309, p264, (ag4 (vi he310) (vi he311) (vi he312) (vi he313)), E307, H308, (by omega), hf314⟩
           · refine rk_cf (T rfl (congrArg Value.bool (decide_eq_false hb242))) ?_
             refine rk_skip ?_
             refine rk_inBlock ?_
             refine rk_seq ?_
             refine rk_reg ?_
             refine lw_v (.pointer (some ⟨br, 0, none⟩)) (dv_move (T rfl rfl)) ?_
             have h315 := hx.bx E16 hAb
             refine lw_e (oe_callf (vs := [.pointer (some ⟨br, 0, none⟩), .int .i64 (-60), .int .i64 60]) co80 (ar3 (T rfl rfl) C C) (rnear_ok (lo := -60) (hi := 60) h315 (by first | omega | (simp; done) | (simp; omega)) (by first | omega | (simp; done) | (simp; omega)) ok hAb H11 (by omega) (by omega) (by omega)) ?_)
             rintro _ w322 ⟨zi316, p317, rfl, e323, H319, hp320, hz321⟩
             have E324 := E16.trans e323
             refine lw_e (oe_callf (vs := [.int .i64 zi316]) co60 (ar1 (T rfl rfl)) (sWideOf_ok (x := zi316)  (by omega)) ?_)
             rintro _ w325 ⟨rfl, e326⟩
             have E327 := bx_ext E324 e326
             have H328 := (e326.blk (bx_blk e323 (bx_blk e15 n3.blk (by omega)) (by omega)))
             refine lw_e (oe_store (v := .agg #[.int .u64 (wv3 zi316), .int .u64 (wv2 zi316), .int .u64 (wv1 zi316), .int .u64 (wv0 zi316)]) (vs := [.int .u64 (wv3 zi316), .int .u64 (wv2 zi316), .int .u64 (wv1 zi316), .int .u64 (wv0 zi316)]) (l := [.int .u64 (wv3 zi316), .int .u64 (wv2 zi316), .int .u64 (wv1 zi316), .int .u64 (wv0 zi316)]) (T rfl rfl) (T rfl rfl) sz26 rfl rfl rfl H328 rfl ?_)
             intro w329 s330 H331
             have E332 := bx_stN E327 N4 s330
             refine lw_nil ?_
             refine rk_ret Try.func44 (v := .agg #[.int .u64 (wv3 zi316), .int .u64 (wv2 zi316), .int .u64 (wv1 zi316), .int .u64 (wv0 zi316)]) (res1 Try.results44 (rv_cells (l := [.int .u64 (wv3 zi316), .int .u64 (wv2 zi316), .int .u64 (wv1 zi316), .int .u64 (wv0 zi316)]) agt26 sz26 rfl rfl H331 rfl)) ⟨_, rfl, ?_⟩
             have H333 := (s330.blk (e326.blk H319) (by omega))
             exact ⟨zi316, p317, (ag4 rfl rfl rfl rfl), E332, H333, (by omega), (fits_i (by omega))⟩
set_option maxHeartbeats 1000000 in
theorem l1Open_ok {w : World} {A : Option Addr} {l c : Nat} : Ct Try.prog 43 [.slice A l c] w fun v w1 => ∃ b, v = .pointer (some ⟨b, 0, none⟩) ∧ Ext w w1 ∧ w1.heap[b]? = some (.cells #[.slice A l c, .int .i64 0] 91) ∧ w.heap.size ≤ b := by
 refine ct_run (n := 6) Try.func43 rfl Try.ntmps43 rfl ?_
 have E0 : Below w.heap.size w w := Below.refl _ _
 refine rk_seq ?_
 refine rk_reg ?_
 refine lw_v (.pointer none) (dv_assign C) ?_
 refine lw_nil ?_
 refine rk_seq ?_
 refine rk_reg ?_
 refine lw_v (.slice A l c) (dv_move (T rfl rfl)) ?_
 refine lw_v (.agg #[.slice A l c, .int .i64 0]) (dv_build (pv := [(0, .slice A l c)]) (l := [.slice A l c, .int .i64 0]) zc91 pl91 ⟨rfl, (T rfl rfl), trivial⟩ rfl) ?_
 refine lw_e (oe_box (v := .agg #[.slice A l c, .int .i64 0]) (cs := #[.slice A l c, .int .i64 0]) (T rfl rfl) rfl ?_)
 intro b1 w2 n3
 have N4 : w.heap.size ≤ b1 := n3.eq ▸ E0.size
 have E5 := below_ext E0 E0.size n3.ext
 refine lw_v (.pointer (some ⟨b1, 0, none⟩)) (dv_assign (T rfl rfl)) ?_
 refine lw_nil ?_
 refine rk_ret Try.func43 (v := .pointer (some ⟨b1, 0, none⟩)) (res1 Try.results43 (rv_tmp rfl rfl)) ⟨_, rfl, ?_⟩
 exact ⟨_, rfl, E5, n3.blk, N4⟩
end Go.Proofs.Ytfmkadgjoechnaa.W
set_option linter.unusedVariables false
set_option linter.unusedSimpArgs false
namespace Go.Proofs.Ytfmkadgjoechnaa.W
open Go Go.RowKit Go.Proofs.Ytfmkadgjoechnaa.Fw
attribute [local irreducible] RunK LW AW DV OE Ct
theorem co43 : callOk Try.prog 43 = true := by kernel_rfl
theorem co44 : callOk Try.prog 44 = true := by kernel_rfl
theorem co62 : callOk Try.prog 62 = true := by kernel_rfl
set_option maxHeartbeats 1000000 in
theorem iWideAdd_ok {w : World} {x y : Int} (fx_ : fits x) (fy_ : fits y)  : Ct Try.prog 19 [.agg #[.int .u64 (wv3 x), .int .u64 (wv2 x), .int .u64 (wv1 x), .int .u64 (wv0 x)], .agg #[.int .u64 (wv3 y), .int .u64 (wv2 y), .int .u64 (wv1 y), .int .u64 (wv0 y)]] w fun v w1 => v = .tuple #[.agg #[.int .u64 (wv3 (fz (x + y))), .int .u64 (wv2 (fz (x + y))), .int .u64 (wv1 (fz (x + y))), .int .u64 (wv0 (fz (x + y)))], .bool (decide (fits (x + y)))] ∧ Ext w w1 := by
 refine ct_run (n := 14) Try.func19 rfl Try.ntmps19 rfl ?_
 have E0 : Below w.heap.size w w := Below.refl _ _
 refine rk_seq ?_
 refine rk_reg ?_
 refine lw_e (oe_box (v := .agg #[.int .u64 (wv3 x), .int .u64 (wv2 x), .int .u64 (wv1 x), .int .u64 (wv0 x)]) (cs := #[.int .u64 (wv3 x), .int .u64 (wv2 x), .int .u64 (wv1 x), .int .u64 (wv0 x)]) (T rfl rfl) rfl ?_)
 intro b1 w2 n3
 have N4 : w.heap.size ≤ b1 := n3.eq ▸ E0.size
 have E5 := below_ext E0 E0.size n3.ext
 refine lw_e (oe_box (v := .agg #[.int .u64 (wv3 y), .int .u64 (wv2 y), .int .u64 (wv1 y), .int .u64 (wv0 y)]) (cs := #[.int .u64 (wv3 y), .int .u64 (wv2 y), .int .u64 (wv1 y), .int .u64 (wv0 y)]) (T rfl rfl) rfl ?_)
 intro b6 w7 n8
 have N9 : w.heap.size ≤ b6 := n8.eq ▸ E5.size
 have : b1 < b6 := n8.eq ▸ lt_of_blk n3.blk
 have E10 := below_ext E5 E5.size n8.ext
 refine lw_e (oe_alloc ze26 ?_)
 intro b11 w12 n13
 have N14 : w.heap.size ≤ b11 := n13.eq ▸ E10.size
 have : b6 < b11 := n13.eq ▸ lt_of_blk n8.blk
 have E15 := below_ext E10 E10.size n13.ext
 refine lw_v (.bool false) (dv_assign C) ?_
 refine lw_nil ?_
 refine rk_seq ?_
 refine rk_any (fun w => w.heap[b1]? = some (.cells #[.int .u64 (wv3 x), .int .u64 (wv2 x), .int .u64 (wv1 x), .int .u64 (wv0 x)] 26) ∧ w.heap[b6]? = some (.cells #[.int .u64 (wv3 y), .int .u64 (wv2 y), .int .u64 (wv1 y), .int .u64 (wv0 y)] 26)) [9] mo ?_
 intro w16 d17
 have E18 := below_ext E15 E15.size d17.ext
 have H19 := (d17.ext.blk (n13.ext.blk (n8.ext.blk n3.blk)))
 have H20 := (d17.ext.blk (n13.ext.blk n8.blk))
 refine aw_load 0 (.agg #[.int .u64 (wv3 x), .int .u64 (wv2 x), .int .u64 (wv1 x), .int .u64 (wv0 x)]) rfl (by kernel_rfl) .none ⟨H19, H20⟩ (fun _ s => dv_loads (l := [.int .u64 (wv3 x), .int .u64 (wv2 x), .int .u64 (wv1 x), .int .u64 (wv0 x)]) agt26 sz26 (T rfl rfl) s.1 rfl) ?_
 refine aw_load 2 (.agg #[.int .u64 (wv3 y), .int .u64 (wv2 y), .int .u64 (wv1 y), .int .u64 (wv0 y)]) rfl (by kernel_rfl) .none ⟨H19, H20⟩ (fun _ s => dv_loads (l := [.int .u64 (wv3 y), .int .u64 (wv2 y), .int .u64 (wv1 y), .int .u64 (wv0 y)]) agt26 sz26 (T rfl rfl) s.2 rfl) ?_
 refine aw_one 1 rfl (by kernel_rfl) .none (oe_callf (vs := [.agg #[.int .u64 (wv3 x), .int .u64 (wv2 x), .int .u64 (wv1 x), .int .u64 (wv0 x)]]) co46 (ar1 (T rfl rfl)) (wnumz_ok (z := x) fx_) ?_)
 rintro _ w26 ⟨nr21, A22, n23, c24, rfl, e27, h25⟩
 have E28 := below_ext E18 E18.size e27
 have lh25 := Num.len (by decide) h25
 have H29 := (e27.blk H19)
 have H30 := (e27.blk H20)
 refine ⟨.inr ⟨H29, H30⟩, ?_⟩
 refine aw_one 3 rfl (by kernel_rfl) .none (oe_callf (vs := [.agg #[.int .u64 (wv3 y), .int .u64 (wv2 y), .int .u64 (wv1 y), .int .u64 (wv0 y)]]) co46 (ar1 (T rfl rfl)) (wnumz_ok (z := y) fy_) ?_)
 rintro _ w36 ⟨nr31, A32, n33, c34, rfl, e37, h35⟩
 have E38 := below_ext E28 E28.size e37
 have lh35 := Num.len (by decide) h35
 have H39 := (e37.blk H29)
 have H40 := (e37.blk H30)
 refine ⟨.inr ⟨H39, H40⟩, ?_⟩
 have h41 := (h25.ext e37)
 refine aw_one 4 rfl (by kernel_rfl) .none (oe_callf (vs := [.agg #[.bool nr21, .slice A22 n23 c24], .agg #[.bool nr31, .slice A32 n33 c34]]) co53 (ar2 (T rfl rfl) (T rfl rfl)) (plus_ok h41 h35 (by first | decide | omega) (by first | decide | omega)) ?_)
 rintro _ w47 ⟨nr42, A43, n44, c45, rfl, e48, h46⟩
 have E49 := below_ext E38 E38.size e48
 have lh46 := Num.len (by decide) h46
 have H50 := (e48.blk H39)
 have H51 := (e48.blk H40)
 refine ⟨.inr ⟨H50, H51⟩, ?_⟩
 refine aw_one 5 rfl (by kernel_rfl) .none (oe_callf (vs := [.agg #[.bool nr42, .slice A43 n44 c45]]) co51 (ar1 (T rfl rfl)) (nwide_ok h46 (by first | decide | omega)) ?_)
 rintro _ w53 ⟨rfl, e54⟩
 have E55 := below_ext E49 E49.size e54
 have bw52 := w_rg (x + y)
 have H56 := (e54.blk H50)
 have H57 := (e54.blk H51)
 refine ⟨.inr ⟨H56, H57⟩, ?_⟩
 refine aw_pure 6 (.agg #[.int .u64 (wv3 (x + y)), .int .u64 (wv2 (x + y)), .int .u64 (wv1 (x + y)), .int .u64 (wv0 (x + y))]) rfl (by kernel_rfl) .none ⟨H56, H57⟩ (fun _ => dv_extract (vs := #[.agg #[.int .u64 (wv3 (x + y)), .int .u64 (wv2 (x + y)), .int .u64 (wv1 (x + y)), .int .u64 (wv0 (x + y))], .bool (decide (fits (x + y)))]) (T rfl rfl) rfl) ?_
 refine aw_pure 7 (.bool (decide (fits (x + y)))) rfl (by kernel_rfl) .none ⟨H56, H57⟩ (fun _ => dv_extract (vs := #[.agg #[.int .u64 (wv3 (x + y)), .int .u64 (wv2 (x + y)), .int .u64 (wv1 (x + y)), .int .u64 (wv0 (x + y))], .bool (decide (fits (x + y)))]) (T rfl rfl) rfl) ?_
 have H58 := (e54.blk (e48.blk (e37.blk (e27.blk (d17.ext.blk n13.blk)))))
 refine aw_one 8 rfl (by kernel_rfl) .none (oe_store (v := .agg #[.int .u64 (wv3 (x + y)), .int .u64 (wv2 (x + y)), .int .u64 (wv1 (x + y)), .int .u64 (wv0 (x + y))]) (vs := [.int .u64 (wv3 (x + y)), .int .u64 (wv2 (x + y)), .int .u64 (wv1 (x + y)), .int .u64 (wv0 (x + y))]) (l := [.int .u64 (wv3 (x + y)), .int .u64 (wv2 (x + y)), .int .u64 (wv1 (x + y)), .int .u64 (wv0 (x + y))]) (T rfl rfl) (T rfl rfl) sz26 rfl rfl rfl H58 rfl ?_)
 intro w59 s60 H61
 have E62 := below_st E55 N14 s60
 have H63 := (s60.blk H56 (by omega))
 have H64 := (s60.blk H57 (by omega))
 refine ⟨.inr ⟨H63, H64⟩, ?_⟩
 refine aw_last 9 (.bool (decide (fits (x + y)))) rfl (by kernel_rfl) .none (fun _ => dv_assign (T rfl rfl)) ?_
 refine aw_done (by kernel_rfl) ?_
 refine rk_ret Try.func19 (v := .tuple #[.agg #[.int .u64 (wv3 (x + y)), .int .u64 (wv2 (x + y)), .int .u64 (wv1 (x + y)), .int .u64 (wv0 (x + y))], .bool (decide (fits (x + y)))]) (res2 Try.results19 (rv_cells (l := [.int .u64 (wv3 (x + y)), .int .u64 (wv2 (x + y)), .int .u64 (wv1 (x + y)), .int .u64 (wv0 (x + y))]) agt26 sz26 rfl rfl H61 rfl) (rv_tmp rfl rfl)) ⟨_, rfl, ?_⟩
 exact ⟨(tu2 (ag4 (vi wp3) (vi wp2) (vi wp1) (vi wp0)) rfl), E62⟩
set_option maxHeartbeats 1000000 in
theorem iWideSub_ok {w : World} {x y : Int} (fx_ : fits x) (fy_ : fits y)  : Ct Try.prog 16 [.agg #[.int .u64 (wv3 x), .int .u64 (wv2 x), .int .u64 (wv1 x), .int .u64 (wv0 x)], .agg #[.int .u64 (wv3 y), .int .u64 (wv2 y), .int .u64 (wv1 y), .int .u64 (wv0 y)]] w fun v w1 => v = .tuple #[.agg #[.int .u64 (wv3 (fz (x - y))), .int .u64 (wv2 (fz (x - y))), .int .u64 (wv1 (fz (x - y))), .int .u64 (wv0 (fz (x - y)))], .bool (decide (fits (x - y)))] ∧ Ext w w1 := by
 refine ct_run (n := 14) Try.func16 rfl Try.ntmps16 rfl ?_
 have E0 : Below w.heap.size w w := Below.refl _ _
 refine rk_seq ?_
 refine rk_reg ?_
 refine lw_e (oe_box (v := .agg #[.int .u64 (wv3 x), .int .u64 (wv2 x), .int .u64 (wv1 x), .int .u64 (wv0 x)]) (cs := #[.int .u64 (wv3 x), .int .u64 (wv2 x), .int .u64 (wv1 x), .int .u64 (wv0 x)]) (T rfl rfl) rfl ?_)
 intro b1 w2 n3
 have N4 : w.heap.size ≤ b1 := n3.eq ▸ E0.size
 have E5 := below_ext E0 E0.size n3.ext
 refine lw_e (oe_box (v := .agg #[.int .u64 (wv3 y), .int .u64 (wv2 y), .int .u64 (wv1 y), .int .u64 (wv0 y)]) (cs := #[.int .u64 (wv3 y), .int .u64 (wv2 y), .int .u64 (wv1 y), .int .u64 (wv0 y)]) (T rfl rfl) rfl ?_)
 intro b6 w7 n8
 have N9 : w.heap.size ≤ b6 := n8.eq ▸ E5.size
 have : b1 < b6 := n8.eq ▸ lt_of_blk n3.blk
 have E10 := below_ext E5 E5.size n8.ext
 refine lw_e (oe_alloc ze26 ?_)
 intro b11 w12 n13
 have N14 : w.heap.size ≤ b11 := n13.eq ▸ E10.size
 have : b6 < b11 := n13.eq ▸ lt_of_blk n8.blk
 have E15 := below_ext E10 E10.size n13.ext
 refine lw_v (.bool false) (dv_assign C) ?_
 refine lw_nil ?_
 refine rk_seq ?_
 refine rk_any (fun w => w.heap[b1]? = some (.cells #[.int .u64 (wv3 x), .int .u64 (wv2 x), .int .u64 (wv1 x), .int .u64 (wv0 x)] 26) ∧ w.heap[b6]? = some (.cells #[.int .u64 (wv3 y), .int .u64 (wv2 y), .int .u64 (wv1 y), .int .u64 (wv0 y)] 26)) [9] mo ?_
 intro w16 d17
 have E18 := below_ext E15 E15.size d17.ext
 have H19 := (d17.ext.blk (n13.ext.blk (n8.ext.blk n3.blk)))
 have H20 := (d17.ext.blk (n13.ext.blk n8.blk))
 refine aw_load 0 (.agg #[.int .u64 (wv3 x), .int .u64 (wv2 x), .int .u64 (wv1 x), .int .u64 (wv0 x)]) rfl (by kernel_rfl) .none ⟨H19, H20⟩ (fun _ s => dv_loads (l := [.int .u64 (wv3 x), .int .u64 (wv2 x), .int .u64 (wv1 x), .int .u64 (wv0 x)]) agt26 sz26 (T rfl rfl) s.1 rfl) ?_
 refine aw_load 2 (.agg #[.int .u64 (wv3 y), .int .u64 (wv2 y), .int .u64 (wv1 y), .int .u64 (wv0 y)]) rfl (by kernel_rfl) .none ⟨H19, H20⟩ (fun _ s => dv_loads (l := [.int .u64 (wv3 y), .int .u64 (wv2 y), .int .u64 (wv1 y), .int .u64 (wv0 y)]) agt26 sz26 (T rfl rfl) s.2 rfl) ?_
 refine aw_one 1 rfl (by kernel_rfl) .none (oe_callf (vs := [.agg #[.int .u64 (wv3 x), .int .u64 (wv2 x), .int .u64 (wv1 x), .int .u64 (wv0 x)]]) co46 (ar1 (T rfl rfl)) (wnumz_ok (z := x) fx_) ?_)
 rintro _ w26 ⟨nr21, A22, n23, c24, rfl, e27, h25⟩
 have E28 := below_ext E18 E18.size e27
 have lh25 := Num.len (by decide) h25
 have H29 := (e27.blk H19)
 have H30 := (e27.blk H20)
 refine ⟨.inr ⟨H29, H30⟩, ?_⟩
 refine aw_one 3 rfl (by kernel_rfl) .none (oe_callf (vs := [.agg #[.int .u64 (wv3 y), .int .u64 (wv2 y), .int .u64 (wv1 y), .int .u64 (wv0 y)]]) co46 (ar1 (T rfl rfl)) (wnumz_ok (z := y) fy_) ?_)
 rintro _ w36 ⟨nr31, A32, n33, c34, rfl, e37, h35⟩
 have E38 := below_ext E28 E28.size e37
 have lh35 := Num.len (by decide) h35
 have H39 := (e37.blk H29)
 have H40 := (e37.blk H30)
 refine ⟨.inr ⟨H39, H40⟩, ?_⟩
 have h41 := (h25.ext e37)
 refine aw_one 4 rfl (by kernel_rfl) .none (oe_callf (vs := [.agg #[.bool nr21, .slice A22 n23 c24], .agg #[.bool nr31, .slice A32 n33 c34]]) co50 (ar2 (T rfl rfl) (T rfl rfl)) (less_ok h41 h35 (by first | decide | omega) (by first | decide | omega)) ?_)
 rintro _ w47 ⟨nr42, A43, n44, c45, rfl, e48, h46⟩
 have E49 := below_ext E38 E38.size e48
 have lh46 := Num.len (by decide) h46
 have H50 := (e48.blk H39)
 have H51 := (e48.blk H40)
 refine ⟨.inr ⟨H50, H51⟩, ?_⟩
 refine aw_one 5 rfl (by kernel_rfl) .none (oe_callf (vs := [.agg #[.bool nr42, .slice A43 n44 c45]]) co51 (ar1 (T rfl rfl)) (nwide_ok h46 (by first | decide | omega)) ?_)
 rintro _ w53 ⟨rfl, e54⟩
 have E55 := below_ext E49 E49.size e54
 have bw52 := w_rg (x - y)
 have H56 := (e54.blk H50)
 have H57 := (e54.blk H51)
 refine ⟨.inr ⟨H56, H57⟩, ?_⟩
 refine aw_pure 6 (.agg #[.int .u64 (wv3 (x - y)), .int .u64 (wv2 (x - y)), .int .u64 (wv1 (x - y)), .int .u64 (wv0 (x - y))]) rfl (by kernel_rfl) .none ⟨H56, H57⟩ (fun _ => dv_extract (vs := #[.agg #[.int .u64 (wv3 (x - y)), .int .u64 (wv2 (x - y)), .int .u64 (wv1 (x - y)), .int .u64 (wv0 (x - y))], .bool (decide (fits (x - y)))]) (T rfl rfl) rfl) ?_
 refine aw_pure 7 (.bool (decide (fits (x - y)))) rfl (by kernel_rfl) .none ⟨H56, H57⟩ (fun _ => dv_extract (vs := #[.agg #[.int .u64 (wv3 (x - y)), .int .u64 (wv2 (x - y)), .int .u64 (wv1 (x - y)), .int .u64 (wv0 (x - y))], .bool (decide (fits (x - y)))]) (T rfl rfl) rfl) ?_
 have H58 := (e54.blk (e48.blk (e37.blk (e27.blk (d17.ext.blk n13.blk)))))
 refine aw_one 8 rfl (by kernel_rfl) .none (oe_store (v := .agg #[.int .u64 (wv3 (x - y)), .int .u64 (wv2 (x - y)), .int .u64 (wv1 (x - y)), .int .u64 (wv0 (x - y))]) (vs := [.int .u64 (wv3 (x - y)), .int .u64 (wv2 (x - y)), .int .u64 (wv1 (x - y)), .int .u64 (wv0 (x - y))]) (l := [.int .u64 (wv3 (x - y)), .int .u64 (wv2 (x - y)), .int .u64 (wv1 (x - y)), .int .u64 (wv0 (x - y))]) (T rfl rfl) (T rfl rfl) sz26 rfl rfl rfl H58 rfl ?_)
 intro w59 s60 H61
 have E62 := below_st E55 N14 s60
 have H63 := (s60.blk H56 (by omega))
 have H64 := (s60.blk H57 (by omega))
 refine ⟨.inr ⟨H63, H64⟩, ?_⟩
 refine aw_last 9 (.bool (decide (fits (x - y)))) rfl (by kernel_rfl) .none (fun _ => dv_assign (T rfl rfl)) ?_
 refine aw_done (by kernel_rfl) ?_
 refine rk_ret Try.func16 (v := .tuple #[.agg #[.int .u64 (wv3 (x - y)), .int .u64 (wv2 (x - y)), .int .u64 (wv1 (x - y)), .int .u64 (wv0 (x - y))], .bool (decide (fits (x - y)))]) (res2 Try.results16 (rv_cells (l := [.int .u64 (wv3 (x - y)), .int .u64 (wv2 (x - y)), .int .u64 (wv1 (x - y)), .int .u64 (wv0 (x - y))]) agt26 sz26 rfl rfl H61 rfl) (rv_tmp rfl rfl)) ⟨_, rfl, ?_⟩
 exact ⟨(tu2 (ag4 (vi wp3) (vi wp2) (vi wp1) (vi wp0)) rfl), E62⟩
set_option maxHeartbeats 1000000 in
theorem iWideMul_ok {w : World} {x y : Int} (fx_ : fits x) (fy_ : fits y)  : Ct Try.prog 21 [.agg #[.int .u64 (wv3 x), .int .u64 (wv2 x), .int .u64 (wv1 x), .int .u64 (wv0 x)], .agg #[.int .u64 (wv3 y), .int .u64 (wv2 y), .int .u64 (wv1 y), .int .u64 (wv0 y)]] w fun v w1 => v = .tuple #[.agg #[.int .u64 (wv3 (fz (x * y))), .int .u64 (wv2 (fz (x * y))), .int .u64 (wv1 (fz (x * y))), .int .u64 (wv0 (fz (x * y)))], .bool (decide (fits (x * y)))] ∧ Ext w w1 := by
 refine ct_run (n := 14) Try.func21 rfl Try.ntmps21 rfl ?_
 have E0 : Below w.heap.size w w := Below.refl _ _
 refine rk_seq ?_
 refine rk_reg ?_
 refine lw_e (oe_box (v := .agg #[.int .u64 (wv3 x), .int .u64 (wv2 x), .int .u64 (wv1 x), .int .u64 (wv0 x)]) (cs := #[.int .u64 (wv3 x), .int .u64 (wv2 x), .int .u64 (wv1 x), .int .u64 (wv0 x)]) (T rfl rfl) rfl ?_)
 intro b1 w2 n3
 have N4 : w.heap.size ≤ b1 := n3.eq ▸ E0.size
 have E5 := below_ext E0 E0.size n3.ext
 refine lw_e (oe_box (v := .agg #[.int .u64 (wv3 y), .int .u64 (wv2 y), .int .u64 (wv1 y), .int .u64 (wv0 y)]) (cs := #[.int .u64 (wv3 y), .int .u64 (wv2 y), .int .u64 (wv1 y), .int .u64 (wv0 y)]) (T rfl rfl) rfl ?_)
 intro b6 w7 n8
 have N9 : w.heap.size ≤ b6 := n8.eq ▸ E5.size
 have : b1 < b6 := n8.eq ▸ lt_of_blk n3.blk
 have E10 := below_ext E5 E5.size n8.ext
 refine lw_e (oe_alloc ze26 ?_)
 intro b11 w12 n13
 have N14 : w.heap.size ≤ b11 := n13.eq ▸ E10.size
 have : b6 < b11 := n13.eq ▸ lt_of_blk n8.blk
 have E15 := below_ext E10 E10.size n13.ext
 refine lw_v (.bool false) (dv_assign C) ?_
 refine lw_nil ?_
 refine rk_seq ?_
 refine rk_any (fun w => w.heap[b1]? = some (.cells #[.int .u64 (wv3 x), .int .u64 (wv2 x), .int .u64 (wv1 x), .int .u64 (wv0 x)] 26) ∧ w.heap[b6]? = some (.cells #[.int .u64 (wv3 y), .int .u64 (wv2 y), .int .u64 (wv1 y), .int .u64 (wv0 y)] 26)) [9] mo ?_
 intro w16 d17
 have E18 := below_ext E15 E15.size d17.ext
 have H19 := (d17.ext.blk (n13.ext.blk (n8.ext.blk n3.blk)))
 have H20 := (d17.ext.blk (n13.ext.blk n8.blk))
 refine aw_load 0 (.agg #[.int .u64 (wv3 x), .int .u64 (wv2 x), .int .u64 (wv1 x), .int .u64 (wv0 x)]) rfl (by kernel_rfl) .none ⟨H19, H20⟩ (fun _ s => dv_loads (l := [.int .u64 (wv3 x), .int .u64 (wv2 x), .int .u64 (wv1 x), .int .u64 (wv0 x)]) agt26 sz26 (T rfl rfl) s.1 rfl) ?_
 refine aw_load 2 (.agg #[.int .u64 (wv3 y), .int .u64 (wv2 y), .int .u64 (wv1 y), .int .u64 (wv0 y)]) rfl (by kernel_rfl) .none ⟨H19, H20⟩ (fun _ s => dv_loads (l := [.int .u64 (wv3 y), .int .u64 (wv2 y), .int .u64 (wv1 y), .int .u64 (wv0 y)]) agt26 sz26 (T rfl rfl) s.2 rfl) ?_
 refine aw_one 1 rfl (by kernel_rfl) .none (oe_callf (vs := [.agg #[.int .u64 (wv3 x), .int .u64 (wv2 x), .int .u64 (wv1 x), .int .u64 (wv0 x)]]) co46 (ar1 (T rfl rfl)) (wnumz_ok (z := x) fx_) ?_)
 rintro _ w26 ⟨nr21, A22, n23, c24, rfl, e27, h25⟩
 have E28 := below_ext E18 E18.size e27
 have lh25 := Num.len (by decide) h25
 have H29 := (e27.blk H19)
 have H30 := (e27.blk H20)
 refine ⟨.inr ⟨H29, H30⟩, ?_⟩
 refine aw_one 3 rfl (by kernel_rfl) .none (oe_callf (vs := [.agg #[.int .u64 (wv3 y), .int .u64 (wv2 y), .int .u64 (wv1 y), .int .u64 (wv0 y)]]) co46 (ar1 (T rfl rfl)) (wnumz_ok (z := y) fy_) ?_)
 rintro _ w36 ⟨nr31, A32, n33, c34, rfl, e37, h35⟩
 have E38 := below_ext E28 E28.size e37
 have lh35 := Num.len (by decide) h35
 have H39 := (e37.blk H29)
 have H40 := (e37.blk H30)
 refine ⟨.inr ⟨H39, H40⟩, ?_⟩
 have h41 := (h25.ext e37)
 refine aw_one 4 rfl (by kernel_rfl) .none (oe_callf (vs := [.agg #[.bool nr21, .slice A22 n23 c24], .agg #[.bool nr31, .slice A32 n33 c34]]) co56 (ar2 (T rfl rfl) (T rfl rfl)) (nby_ok h41 h35 (by first | decide | omega) (by first | decide | omega)) ?_)
 rintro _ w47 ⟨nr42, A43, n44, c45, rfl, e48, h46⟩
 have E49 := below_ext E38 E38.size e48
 have lh46 := Num.len (by decide) h46
 have H50 := (e48.blk H39)
 have H51 := (e48.blk H40)
 refine ⟨.inr ⟨H50, H51⟩, ?_⟩
 refine aw_one 5 rfl (by kernel_rfl) .none (oe_callf (vs := [.agg #[.bool nr42, .slice A43 n44 c45]]) co51 (ar1 (T rfl rfl)) (nwide_ok h46 (by first | decide | omega)) ?_)
 rintro _ w53 ⟨rfl, e54⟩
 have E55 := below_ext E49 E49.size e54
 have bw52 := w_rg (x * y)
 have H56 := (e54.blk H50)
 have H57 := (e54.blk H51)
 refine ⟨.inr ⟨H56, H57⟩, ?_⟩
 refine aw_pure 6 (.agg #[.int .u64 (wv3 (x * y)), .int .u64 (wv2 (x * y)), .int .u64 (wv1 (x * y)), .int .u64 (wv0 (x * y))]) rfl (by kernel_rfl) .none ⟨H56, H57⟩ (fun _ => dv_extract (vs := #[.agg #[.int .u64 (wv3 (x * y)), .int .u64 (wv2 (x * y)), .int .u64 (wv1 (x * y)), .int .u64 (wv0 (x * y))], .bool (decide (fits (x * y)))]) (T rfl rfl) rfl) ?_
 refine aw_pure 7 (.bool (decide (fits (x * y)))) rfl (by kernel_rfl) .none ⟨H56, H57⟩ (fun _ => dv_extract (vs := #[.agg #[.int .u64 (wv3 (x * y)), .int .u64 (wv2 (x * y)), .int .u64 (wv1 (x * y)), .int .u64 (wv0 (x * y))], .bool (decide (fits (x * y)))]) (T rfl rfl) rfl) ?_
 have H58 := (e54.blk (e48.blk (e37.blk (e27.blk (d17.ext.blk n13.blk)))))
 refine aw_one 8 rfl (by kernel_rfl) .none (oe_store (v := .agg #[.int .u64 (wv3 (x * y)), .int .u64 (wv2 (x * y)), .int .u64 (wv1 (x * y)), .int .u64 (wv0 (x * y))]) (vs := [.int .u64 (wv3 (x * y)), .int .u64 (wv2 (x * y)), .int .u64 (wv1 (x * y)), .int .u64 (wv0 (x * y))]) (l := [.int .u64 (wv3 (x * y)), .int .u64 (wv2 (x * y)), .int .u64 (wv1 (x * y)), .int .u64 (wv0 (x * y))]) (T rfl rfl) (T rfl rfl) sz26 rfl rfl rfl H58 rfl ?_)
 intro w59 s60 H61
 have E62 := below_st E55 N14 s60
 have H63 := (s60.blk H56 (by omega))
 have H64 := (s60.blk H57 (by omega))
 refine ⟨.inr ⟨H63, H64⟩, ?_⟩
 refine aw_last 9 (.bool (decide (fits (x * y)))) rfl (by kernel_rfl) .none (fun _ => dv_assign (T rfl rfl)) ?_
 refine aw_done (by kernel_rfl) ?_
 refine rk_ret Try.func21 (v := .tuple #[.agg #[.int .u64 (wv3 (x * y)), .int .u64 (wv2 (x * y)), .int .u64 (wv1 (x * y)), .int .u64 (wv0 (x * y))], .bool (decide (fits (x * y)))]) (res2 Try.results21 (rv_cells (l := [.int .u64 (wv3 (x * y)), .int .u64 (wv2 (x * y)), .int .u64 (wv1 (x * y)), .int .u64 (wv0 (x * y))]) agt26 sz26 rfl rfl H61 rfl) (rv_tmp rfl rfl)) ⟨_, rfl, ?_⟩
 exact ⟨(tu2 (ag4 (vi wp3) (vi wp2) (vi wp1) (vi wp0)) rfl), E62⟩
set_option maxHeartbeats 1000000 in
theorem iWideCmp_ok {w : World} {x y : Int} (fx_ : fits x) (fy_ : fits y)  : Ct Try.prog 14 [.agg #[.int .u64 (wv3 x), .int .u64 (wv2 x), .int .u64 (wv1 x), .int .u64 (wv0 x)], .agg #[.int .u64 (wv3 y), .int .u64 (wv2 y), .int .u64 (wv1 y), .int .u64 (wv0 y)]] w fun v w1 => v = .int .i64 (sgnI (x - y)) ∧ Ext w w1 := by
 refine ct_run (n := 10) Try.func14 rfl Try.ntmps14 rfl ?_
 have E0 : Below w.heap.size w w := Below.refl _ _
 refine rk_seq ?_
 refine rk_reg ?_
 refine lw_e (oe_box (v := .agg #[.int .u64 (wv3 x), .int .u64 (wv2 x), .int .u64 (wv1 x), .int .u64 (wv0 x)]) (cs := #[.int .u64 (wv3 x), .int .u64 (wv2 x), .int .u64 (wv1 x), .int .u64 (wv0 x)]) (T rfl rfl) rfl ?_)
 intro b1 w2 n3
 have N4 : w.heap.size ≤ b1 := n3.eq ▸ E0.size
 have E5 := below_ext E0 E0.size n3.ext
 refine lw_e (oe_box (v := .agg #[.int .u64 (wv3 y), .int .u64 (wv2 y), .int .u64 (wv1 y), .int .u64 (wv0 y)]) (cs := #[.int .u64 (wv3 y), .int .u64 (wv2 y), .int .u64 (wv1 y), .int .u64 (wv0 y)]) (T rfl rfl) rfl ?_)
 intro b6 w7 n8
 have N9 : w.heap.size ≤ b6 := n8.eq ▸ E5.size
 have : b1 < b6 := n8.eq ▸ lt_of_blk n3.blk
 have E10 := below_ext E5 E5.size n8.ext
 refine lw_v (.int .i64 0) (dv_assign C) ?_
 refine lw_nil ?_
 refine rk_seq ?_
 refine rk_any (fun w => w.heap[b1]? = some (.cells #[.int .u64 (wv3 x), .int .u64 (wv2 x), .int .u64 (wv1 x), .int .u64 (wv0 x)] 26) ∧ w.heap[b6]? = some (.cells #[.int .u64 (wv3 y), .int .u64 (wv2 y), .int .u64 (wv1 y), .int .u64 (wv0 y)] 26)) [5] mo ?_
 intro w11 d12
 have E13 := below_ext E10 E10.size d12.ext
 have H14 := (d12.ext.blk (n8.ext.blk n3.blk))
 have H15 := (d12.ext.blk n8.blk)
 refine aw_load 0 (.agg #[.int .u64 (wv3 x), .int .u64 (wv2 x), .int .u64 (wv1 x), .int .u64 (wv0 x)]) rfl (by kernel_rfl) .none ⟨H14, H15⟩ (fun _ s => dv_loads (l := [.int .u64 (wv3 x), .int .u64 (wv2 x), .int .u64 (wv1 x), .int .u64 (wv0 x)]) agt26 sz26 (T rfl rfl) s.1 rfl) ?_
 refine aw_load 2 (.agg #[.int .u64 (wv3 y), .int .u64 (wv2 y), .int .u64 (wv1 y), .int .u64 (wv0 y)]) rfl (by kernel_rfl) .none ⟨H14, H15⟩ (fun _ s => dv_loads (l := [.int .u64 (wv3 y), .int .u64 (wv2 y), .int .u64 (wv1 y), .int .u64 (wv0 y)]) agt26 sz26 (T rfl rfl) s.2 rfl) ?_
 refine aw_one 1 rfl (by kernel_rfl) .none (oe_callf (vs := [.agg #[.int .u64 (wv3 x), .int .u64 (wv2 x), .int .u64 (wv1 x), .int .u64 (wv0 x)]]) co46 (ar1 (T rfl rfl)) (wnumz_ok (z := x) fx_) ?_)
 rintro _ w21 ⟨nr16, A17, n18, c19, rfl, e22, h20⟩
 have E23 := below_ext E13 E13.size e22
 have lh20 := Num.len (by decide) h20
 have H24 := (e22.blk H14)
 have H25 := (e22.blk H15)
 refine ⟨.inr ⟨H24, H25⟩, ?_⟩
 refine aw_one 3 rfl (by kernel_rfl) .none (oe_callf (vs := [.agg #[.int .u64 (wv3 y), .int .u64 (wv2 y), .int .u64 (wv1 y), .int .u64 (wv0 y)]]) co46 (ar1 (T rfl rfl)) (wnumz_ok (z := y) fy_) ?_)
 rintro _ w31 ⟨nr26, A27, n28, c29, rfl, e32, h30⟩
 have E33 := below_ext E23 E23.size e32
 have lh30 := Num.len (by decide) h30
 have H34 := (e32.blk H24)
 have H35 := (e32.blk H25)
 refine ⟨.inr ⟨H34, H35⟩, ?_⟩
 have h36 := (h20.ext e32)
 refine aw_one 4 rfl (by kernel_rfl) .none (oe_callf (vs := [.agg #[.bool nr16, .slice A17 n18 c19], .agg #[.bool nr26, .slice A27 n28 c29]]) co47 (ar2 (T rfl rfl) (T rfl rfl)) (ncmp_ok h36 h30 (by first | decide | omega) (by first | decide | omega)) ?_)
 rintro _ w37 ⟨rfl, e38⟩
 have E39 := below_ext E33 E33.size e38
 have H40 := (e38.blk H34)
 have H41 := (e38.blk H35)
 refine ⟨.inr ⟨H40, H41⟩, ?_⟩
 refine aw_last 5 (.int .i64 (sgnI (x - y))) rfl (by kernel_rfl) .none (fun _ => dv_assign (T rfl rfl)) ?_
 refine aw_done (by kernel_rfl) ?_
 refine rk_ret Try.func14 (v := .int .i64 (sgnI (x - y))) (res1 Try.results14 (rv_tmp rfl rfl)) ⟨_, rfl, ?_⟩
 exact ⟨rfl, E39⟩
set_option maxHeartbeats 1000000 in
theorem iWideSign_ok {w : World} {x : Int} (fx_ : fits x)  : Ct Try.prog 17 [.agg #[.int .u64 (wv3 x), .int .u64 (wv2 x), .int .u64 (wv1 x), .int .u64 (wv0 x)]] w fun v w1 => v = .int .i64 (sgnI x) ∧ Ext w w1 := by
 refine ct_run (n := 6) Try.func17 rfl Try.ntmps17 rfl ?_
 have E0 : Below w.heap.size w w := Below.refl _ _
 refine rk_seq ?_
 refine rk_reg ?_
 refine lw_e (oe_box (v := .agg #[.int .u64 (wv3 x), .int .u64 (wv2 x), .int .u64 (wv1 x), .int .u64 (wv0 x)]) (cs := #[.int .u64 (wv3 x), .int .u64 (wv2 x), .int .u64 (wv1 x), .int .u64 (wv0 x)]) (T rfl rfl) rfl ?_)
 intro b1 w2 n3
 have N4 : w.heap.size ≤ b1 := n3.eq ▸ E0.size
 have E5 := below_ext E0 E0.size n3.ext
 refine lw_v (.int .i64 0) (dv_assign C) ?_
 refine lw_nil ?_
 refine rk_seq ?_
 refine rk_reg ?_
 refine lw_v (.agg #[.int .u64 (wv3 x), .int .u64 (wv2 x), .int .u64 (wv1 x), .int .u64 (wv0 x)]) (dv_loads (l := [.int .u64 (wv3 x), .int .u64 (wv2 x), .int .u64 (wv1 x), .int .u64 (wv0 x)]) agt26 sz26 (T rfl rfl) n3.blk rfl) ?_
 refine lw_e (oe_callf (vs := [.agg #[.int .u64 (wv3 x), .int .u64 (wv2 x), .int .u64 (wv1 x), .int .u64 (wv0 x)]]) co46 (ar1 (T rfl rfl)) (wnumz_ok (z := x) fx_) ?_)
 rintro _ w11 ⟨nr6, A7, n8, c9, rfl, e12, h10⟩
 have E13 := below_ext E5 E5.size e12
 have lh10 := Num.len (by decide) h10
 refine lw_e (oe_callf (vs := [.agg #[.bool nr6, .slice A7 n8 c9]]) co52 (ar1 (T rfl rfl)) (nsign_ok h10 ) ?_)
 rintro _ w14 ⟨rfl, e15⟩
 have E16 := below_ext E13 E13.size e15
 refine lw_v (.int .i64 (sgnI x)) (dv_assign (T rfl rfl)) ?_
 refine lw_nil ?_
 refine rk_ret Try.func17 (v := .int .i64 (sgnI x)) (res1 Try.results17 (rv_tmp rfl rfl)) ⟨_, rfl, ?_⟩
 exact ⟨rfl, E16⟩
set_option maxHeartbeats 1000000 in
theorem iWideBits_ok {w : World} {x : Int} (fx_ : fits x)  : Ct Try.prog 34 [.agg #[.int .u64 (wv3 x), .int .u64 (wv2 x), .int .u64 (wv1 x), .int .u64 (wv0 x)]] w fun v w1 => v = .int .i64 ((nbits x.natAbs : Int)) ∧ Ext w w1 := by
 refine ct_run (n := 6) Try.func34 rfl Try.ntmps34 rfl ?_
 have E0 : Below w.heap.size w w := Below.refl _ _
 refine rk_seq ?_
 refine rk_reg ?_
 refine lw_e (oe_box (v := .agg #[.int .u64 (wv3 x), .int .u64 (wv2 x), .int .u64 (wv1 x), .int .u64 (wv0 x)]) (cs := #[.int .u64 (wv3 x), .int .u64 (wv2 x), .int .u64 (wv1 x), .int .u64 (wv0 x)]) (T rfl rfl) rfl ?_)
 intro b1 w2 n3
 have N4 : w.heap.size ≤ b1 := n3.eq ▸ E0.size
 have E5 := below_ext E0 E0.size n3.ext
 refine lw_v (.int .i64 0) (dv_assign C) ?_
 refine lw_nil ?_
 refine rk_seq ?_
 refine rk_reg ?_
 refine lw_v (.agg #[.int .u64 (wv3 x), .int .u64 (wv2 x), .int .u64 (wv1 x), .int .u64 (wv0 x)]) (dv_loads (l := [.int .u64 (wv3 x), .int .u64 (wv2 x), .int .u64 (wv1 x), .int .u64 (wv0 x)]) agt26 sz26 (T rfl rfl) n3.blk rfl) ?_
 refine lw_e (oe_callf (vs := [.agg #[.int .u64 (wv3 x), .int .u64 (wv2 x), .int .u64 (wv1 x), .int .u64 (wv0 x)]]) co46 (ar1 (T rfl rfl)) (wnumz_ok (z := x) fx_) ?_)
 rintro _ w11 ⟨nr6, A7, n8, c9, rfl, e12, h10⟩
 have E13 := below_ext E5 E5.size e12
 have lh10 := Num.len (by decide) h10
 refine lw_e (oe_callf (vs := [.agg #[.bool nr6, .slice A7 n8 c9]]) co68 (ar1 (T rfl rfl)) (nsize_num h10 (by first | omega | (simp; done) | (simp; omega))) ?_)
 rintro _ w14 ⟨rfl, e15⟩
 have E16 := below_ext E13 E13.size e15
 refine lw_v (.int .i64 ((nbits (x).natAbs : Int))) (dv_assign (T rfl rfl)) ?_
 refine lw_nil ?_
 refine rk_ret Try.func34 (v := .int .i64 ((nbits (x).natAbs : Int))) (res1 Try.results34 (rv_tmp rfl rfl)) ⟨_, rfl, ?_⟩
 exact ⟨rfl, E16⟩
set_option maxHeartbeats 1000000 in
theorem sWideAdd_ok {w : World} {x y : Int} (fx_ : fits x) (fy_ : fits y)  : Ct Try.prog 20 [.agg #[.int .u64 (wv3 x), .int .u64 (wv2 x), .int .u64 (wv1 x), .int .u64 (wv0 x)], .agg #[.int .u64 (wv3 y), .int .u64 (wv2 y), .int .u64 (wv1 y), .int .u64 (wv0 y)]] w fun v w1 => v = .tuple #[.agg #[.int .u64 (wv3 (fz (x + y))), .int .u64 (wv2 (fz (x + y))), .int .u64 (wv1 (fz (x + y))), .int .u64 (wv0 (fz (x + y)))], .bool (decide (fits (x + y)))] ∧ Ext w w1 := by
 refine ct_run (n := 14) Try.func20 rfl Try.ntmps20 rfl ?_
 have E0 : Below w.heap.size w w := Below.refl _ _
 refine rk_seq ?_
 refine rk_reg ?_
 refine lw_e (oe_box (v := .agg #[.int .u64 (wv3 x), .int .u64 (wv2 x), .int .u64 (wv1 x), .int .u64 (wv0 x)]) (cs := #[.int .u64 (wv3 x), .int .u64 (wv2 x), .int .u64 (wv1 x), .int .u64 (wv0 x)]) (T rfl rfl) rfl ?_)
 intro b1 w2 n3
 have N4 : w.heap.size ≤ b1 := n3.eq ▸ E0.size
 have E5 := below_ext E0 E0.size n3.ext
 refine lw_e (oe_box (v := .agg #[.int .u64 (wv3 y), .int .u64 (wv2 y), .int .u64 (wv1 y), .int .u64 (wv0 y)]) (cs := #[.int .u64 (wv3 y), .int .u64 (wv2 y), .int .u64 (wv1 y), .int .u64 (wv0 y)]) (T rfl rfl) rfl ?_)
 intro b6 w7 n8
 have N9 : w.heap.size ≤ b6 := n8.eq ▸ E5.size
 have : b1 < b6 := n8.eq ▸ lt_of_blk n3.blk
 have E10 := below_ext E5 E5.size n8.ext
 refine lw_e (oe_alloc ze26 ?_)
 intro b11 w12 n13
 have N14 : w.heap.size ≤ b11 := n13.eq ▸ E10.size
 have : b6 < b11 := n13.eq ▸ lt_of_blk n8.blk
 have E15 := below_ext E10 E10.size n13.ext
 refine lw_v (.bool false) (dv_assign C) ?_
 refine lw_nil ?_
 refine rk_seq ?_
 refine rk_any (fun w => w.heap[b1]? = some (.cells #[.int .u64 (wv3 x), .int .u64 (wv2 x), .int .u64 (wv1 x), .int .u64 (wv0 x)] 26) ∧ w.heap[b6]? = some (.cells #[.int .u64 (wv3 y), .int .u64 (wv2 y), .int .u64 (wv1 y), .int .u64 (wv0 y)] 26)) [9] mo ?_
 intro w16 d17
 have E18 := below_ext E15 E15.size d17.ext
 have H19 := (d17.ext.blk (n13.ext.blk (n8.ext.blk n3.blk)))
 have H20 := (d17.ext.blk (n13.ext.blk n8.blk))
 refine aw_load 0 (.agg #[.int .u64 (wv3 x), .int .u64 (wv2 x), .int .u64 (wv1 x), .int .u64 (wv0 x)]) rfl (by kernel_rfl) .none ⟨H19, H20⟩ (fun _ s => dv_loads (l := [.int .u64 (wv3 x), .int .u64 (wv2 x), .int .u64 (wv1 x), .int .u64 (wv0 x)]) agt26 sz26 (T rfl rfl) s.1 rfl) ?_
 refine aw_load 2 (.agg #[.int .u64 (wv3 y), .int .u64 (wv2 y), .int .u64 (wv1 y), .int .u64 (wv0 y)]) rfl (by kernel_rfl) .none ⟨H19, H20⟩ (fun _ s => dv_loads (l := [.int .u64 (wv3 y), .int .u64 (wv2 y), .int .u64 (wv1 y), .int .u64 (wv0 y)]) agt26 sz26 (T rfl rfl) s.2 rfl) ?_
 refine aw_one 1 rfl (by kernel_rfl) .none (oe_callf (vs := [.agg #[.int .u64 (wv3 x), .int .u64 (wv2 x), .int .u64 (wv1 x), .int .u64 (wv0 x)]]) co49 (ar1 (T rfl rfl)) (l1Fromz_ok (z := x) fx_) ?_)
 rintro _ w26 ⟨nr21, A22, n23, c24, rfl, e27, h25⟩
 have E28 := below_ext E18 E18.size e27
 have lh25 := Num.len (by decide) h25
 have H29 := (e27.blk H19)
 have H30 := (e27.blk H20)
 refine ⟨.inr ⟨H29, H30⟩, ?_⟩
 refine aw_one 3 rfl (by kernel_rfl) .none (oe_callf (vs := [.agg #[.int .u64 (wv3 y), .int .u64 (wv2 y), .int .u64 (wv1 y), .int .u64 (wv0 y)]]) co49 (ar1 (T rfl rfl)) (l1Fromz_ok (z := y) fy_) ?_)
 rintro _ w36 ⟨nr31, A32, n33, c34, rfl, e37, h35⟩
 have E38 := below_ext E28 E28.size e37
 have lh35 := Num.len (by decide) h35
 have H39 := (e37.blk H29)
 have H40 := (e37.blk H30)
 refine ⟨.inr ⟨H39, H40⟩, ?_⟩
 have h41 := (h25.ext e37)
 refine aw_one 4 rfl (by kernel_rfl) .none (oe_callf (vs := [.agg #[.bool nr21, .slice A22 n23 c24], .agg #[.bool nr31, .slice A32 n33 c34]]) co55 (ar2 (T rfl rfl) (T rfl rfl)) (l1Add_ok h41 h35 (by first | decide | omega) (by first | decide | omega)) ?_)
 rintro _ w47 ⟨nr42, A43, n44, c45, rfl, e48, h46⟩
 have E49 := below_ext E38 E38.size e48
 have lh46 := Num.len (by decide) h46
 have H50 := (e48.blk H39)
 have H51 := (e48.blk H40)
 refine ⟨.inr ⟨H50, H51⟩, ?_⟩
 refine aw_one 5 rfl (by kernel_rfl) .none (oe_callf (vs := [.agg #[.bool nr42, .slice A43 n44 c45]]) co54 (ar1 (T rfl rfl)) (l1Wide_ok h46 (by first | decide | omega)) ?_)
 rintro _ w53 ⟨rfl, e54⟩
 have E55 := below_ext E49 E49.size e54
 have bw52 := w_rg (x + y)
 have H56 := (e54.blk H50)
 have H57 := (e54.blk H51)
 refine ⟨.inr ⟨H56, H57⟩, ?_⟩
 refine aw_pure 6 (.agg #[.int .u64 (wv3 (x + y)), .int .u64 (wv2 (x + y)), .int .u64 (wv1 (x + y)), .int .u64 (wv0 (x + y))]) rfl (by kernel_rfl) .none ⟨H56, H57⟩ (fun _ => dv_extract (vs := #[.agg #[.int .u64 (wv3 (x + y)), .int .u64 (wv2 (x + y)), .int .u64 (wv1 (x + y)), .int .u64 (wv0 (x + y))], .bool (decide (fits (x + y)))]) (T rfl rfl) rfl) ?_
 refine aw_pure 7 (.bool (decide (fits (x + y)))) rfl (by kernel_rfl) .none ⟨H56, H57⟩ (fun _ => dv_extract (vs := #[.agg #[.int .u64 (wv3 (x + y)), .int .u64 (wv2 (x + y)), .int .u64 (wv1 (x + y)), .int .u64 (wv0 (x + y))], .bool (decide (fits (x + y)))]) (T rfl rfl) rfl) ?_
 have H58 := (e54.blk (e48.blk (e37.blk (e27.blk (d17.ext.blk n13.blk)))))
 refine aw_one 8 rfl (by kernel_rfl) .none (oe_store (v := .agg #[.int .u64 (wv3 (x + y)), .int .u64 (wv2 (x + y)), .int .u64 (wv1 (x + y)), .int .u64 (wv0 (x + y))]) (vs := [.int .u64 (wv3 (x + y)), .int .u64 (wv2 (x + y)), .int .u64 (wv1 (x + y)), .int .u64 (wv0 (x + y))]) (l := [.int .u64 (wv3 (x + y)), .int .u64 (wv2 (x + y)), .int .u64 (wv1 (x + y)), .int .u64 (wv0 (x + y))]) (T rfl rfl) (T rfl rfl) sz26 rfl rfl rfl H58 rfl ?_)
 intro w59 s60 H61
 have E62 := below_st E55 N14 s60
 have H63 := (s60.blk H56 (by omega))
 have H64 := (s60.blk H57 (by omega))
 refine ⟨.inr ⟨H63, H64⟩, ?_⟩
 refine aw_last 9 (.bool (decide (fits (x + y)))) rfl (by kernel_rfl) .none (fun _ => dv_assign (T rfl rfl)) ?_
 refine aw_done (by kernel_rfl) ?_
 refine rk_ret Try.func20 (v := .tuple #[.agg #[.int .u64 (wv3 (x + y)), .int .u64 (wv2 (x + y)), .int .u64 (wv1 (x + y)), .int .u64 (wv0 (x + y))], .bool (decide (fits (x + y)))]) (res2 Try.results20 (rv_cells (l := [.int .u64 (wv3 (x + y)), .int .u64 (wv2 (x + y)), .int .u64 (wv1 (x + y)), .int .u64 (wv0 (x + y))]) agt26 sz26 rfl rfl H61 rfl) (rv_tmp rfl rfl)) ⟨_, rfl, ?_⟩
 exact ⟨(tu2 (ag4 (vi wp3) (vi wp2) (vi wp1) (vi wp0)) rfl), E62⟩
set_option maxHeartbeats 1000000 in
theorem sWideMul_ok {w : World} {x y : Int} (fx_ : fits x) (fy_ : fits y)  : Ct Try.prog 62 [.agg #[.int .u64 (wv3 x), .int .u64 (wv2 x), .int .u64 (wv1 x), .int .u64 (wv0 x)], .agg #[.int .u64 (wv3 y), .int .u64 (wv2 y), .int .u64 (wv1 y), .int .u64 (wv0 y)]] w fun v w1 => v = .tuple #[.agg #[.int .u64 (wv3 (fz (x * y))), .int .u64 (wv2 (fz (x * y))), .int .u64 (wv1 (fz (x * y))), .int .u64 (wv0 (fz (x * y)))], .bool (decide (fits (x * y)))] ∧ Ext w w1 := by
 refine ct_run (n := 14) Try.func62 rfl Try.ntmps62 rfl ?_
 have E0 : Below w.heap.size w w := Below.refl _ _
 refine rk_seq ?_
 refine rk_reg ?_
 refine lw_e (oe_box (v := .agg #[.int .u64 (wv3 x), .int .u64 (wv2 x), .int .u64 (wv1 x), .int .u64 (wv0 x)]) (cs := #[.int .u64 (wv3 x), .int .u64 (wv2 x), .int .u64 (wv1 x), .int .u64 (wv0 x)]) (T rfl rfl) rfl ?_)
 intro b1 w2 n3
 have N4 : w.heap.size ≤ b1 := n3.eq ▸ E0.size
 have E5 := below_ext E0 E0.size n3.ext
 refine lw_e (oe_box (v := .agg #[.int .u64 (wv3 y), .int .u64 (wv2 y), .int .u64 (wv1 y), .int .u64 (wv0 y)]) (cs := #[.int .u64 (wv3 y), .int .u64 (wv2 y), .int .u64 (wv1 y), .int .u64 (wv0 y)]) (T rfl rfl) rfl ?_)
 intro b6 w7 n8
 have N9 : w.heap.size ≤ b6 := n8.eq ▸ E5.size
 have : b1 < b6 := n8.eq ▸ lt_of_blk n3.blk
 have E10 := below_ext E5 E5.size n8.ext
 refine lw_e (oe_alloc ze26 ?_)
 intro b11 w12 n13
 have N14 : w.heap.size ≤ b11 := n13.eq ▸ E10.size
 have : b6 < b11 := n13.eq ▸ lt_of_blk n8.blk
 have E15 := below_ext E10 E10.size n13.ext
 refine lw_v (.bool false) (dv_assign C) ?_
 refine lw_nil ?_
 refine rk_seq ?_
 refine rk_any (fun w => w.heap[b1]? = some (.cells #[.int .u64 (wv3 x), .int .u64 (wv2 x), .int .u64 (wv1 x), .int .u64 (wv0 x)] 26) ∧ w.heap[b6]? = some (.cells #[.int .u64 (wv3 y), .int .u64 (wv2 y), .int .u64 (wv1 y), .int .u64 (wv0 y)] 26)) [9] mo ?_
 intro w16 d17
 have E18 := below_ext E15 E15.size d17.ext
 have H19 := (d17.ext.blk (n13.ext.blk (n8.ext.blk n3.blk)))
 have H20 := (d17.ext.blk (n13.ext.blk n8.blk))
 refine aw_load 0 (.agg #[.int .u64 (wv3 x), .int .u64 (wv2 x), .int .u64 (wv1 x), .int .u64 (wv0 x)]) rfl (by kernel_rfl) .none ⟨H19, H20⟩ (fun _ s => dv_loads (l := [.int .u64 (wv3 x), .int .u64 (wv2 x), .int .u64 (wv1 x), .int .u64 (wv0 x)]) agt26 sz26 (T rfl rfl) s.1 rfl) ?_
 refine aw_load 2 (.agg #[.int .u64 (wv3 y), .int .u64 (wv2 y), .int .u64 (wv1 y), .int .u64 (wv0 y)]) rfl (by kernel_rfl) .none ⟨H19, H20⟩ (fun _ s => dv_loads (l := [.int .u64 (wv3 y), .int .u64 (wv2 y), .int .u64 (wv1 y), .int .u64 (wv0 y)]) agt26 sz26 (T rfl rfl) s.2 rfl) ?_
 refine aw_one 1 rfl (by kernel_rfl) .none (oe_callf (vs := [.agg #[.int .u64 (wv3 x), .int .u64 (wv2 x), .int .u64 (wv1 x), .int .u64 (wv0 x)]]) co49 (ar1 (T rfl rfl)) (l1Fromz_ok (z := x) fx_) ?_)
 rintro _ w26 ⟨nr21, A22, n23, c24, rfl, e27, h25⟩
 have E28 := below_ext E18 E18.size e27
 have lh25 := Num.len (by decide) h25
 have H29 := (e27.blk H19)
 have H30 := (e27.blk H20)
 refine ⟨.inr ⟨H29, H30⟩, ?_⟩
 refine aw_one 3 rfl (by kernel_rfl) .none (oe_callf (vs := [.agg #[.int .u64 (wv3 y), .int .u64 (wv2 y), .int .u64 (wv1 y), .int .u64 (wv0 y)]]) co49 (ar1 (T rfl rfl)) (l1Fromz_ok (z := y) fy_) ?_)
 rintro _ w36 ⟨nr31, A32, n33, c34, rfl, e37, h35⟩
 have E38 := below_ext E28 E28.size e37
 have lh35 := Num.len (by decide) h35
 have H39 := (e37.blk H29)
 have H40 := (e37.blk H30)
 refine ⟨.inr ⟨H39, H40⟩, ?_⟩
 have h41 := (h25.ext e37)
 refine aw_one 4 rfl (by kernel_rfl) .none (oe_callf (vs := [.agg #[.bool nr21, .slice A22 n23 c24], .agg #[.bool nr31, .slice A32 n33 c34]]) co78 (ar2 (T rfl rfl) (T rfl rfl)) (l1Mul_ok h41 h35 (by first | decide | omega) (by first | decide | omega)) ?_)
 rintro _ w47 ⟨nr42, A43, n44, c45, rfl, e48, h46⟩
 have E49 := below_ext E38 E38.size e48
 have lh46 := Num.len (by decide) h46
 have H50 := (e48.blk H39)
 have H51 := (e48.blk H40)
 refine ⟨.inr ⟨H50, H51⟩, ?_⟩
 refine aw_one 5 rfl (by kernel_rfl) .none (oe_callf (vs := [.agg #[.bool nr42, .slice A43 n44 c45]]) co54 (ar1 (T rfl rfl)) (l1Wide_ok h46 (by first | decide | omega)) ?_)
 rintro _ w53 ⟨rfl, e54⟩
 have E55 := below_ext E49 E49.size e54
 have bw52 := w_rg (x * y)
 have H56 := (e54.blk H50)
 have H57 := (e54.blk H51)
 refine ⟨.inr ⟨H56, H57⟩, ?_⟩
 refine aw_pure 6 (.agg #[.int .u64 (wv3 (x * y)), .int .u64 (wv2 (x * y)), .int .u64 (wv1 (x * y)), .int .u64 (wv0 (x * y))]) rfl (by kernel_rfl) .none ⟨H56, H57⟩ (fun _ => dv_extract (vs := #[.agg #[.int .u64 (wv3 (x * y)), .int .u64 (wv2 (x * y)), .int .u64 (wv1 (x * y)), .int .u64 (wv0 (x * y))], .bool (decide (fits (x * y)))]) (T rfl rfl) rfl) ?_
 refine aw_pure 7 (.bool (decide (fits (x * y)))) rfl (by kernel_rfl) .none ⟨H56, H57⟩ (fun _ => dv_extract (vs := #[.agg #[.int .u64 (wv3 (x * y)), .int .u64 (wv2 (x * y)), .int .u64 (wv1 (x * y)), .int .u64 (wv0 (x * y))], .bool (decide (fits (x * y)))]) (T rfl rfl) rfl) ?_
 have H58 := (e54.blk (e48.blk (e37.blk (e27.blk (d17.ext.blk n13.blk)))))
 refine aw_one 8 rfl (by kernel_rfl) .none (oe_store (v := .agg #[.int .u64 (wv3 (x * y)), .int .u64 (wv2 (x * y)), .int .u64 (wv1 (x * y)), .int .u64 (wv0 (x * y))]) (vs := [.int .u64 (wv3 (x * y)), .int .u64 (wv2 (x * y)), .int .u64 (wv1 (x * y)), .int .u64 (wv0 (x * y))]) (l := [.int .u64 (wv3 (x * y)), .int .u64 (wv2 (x * y)), .int .u64 (wv1 (x * y)), .int .u64 (wv0 (x * y))]) (T rfl rfl) (T rfl rfl) sz26 rfl rfl rfl H58 rfl ?_)
 intro w59 s60 H61
 have E62 := below_st E55 N14 s60
 have H63 := (s60.blk H56 (by omega))
 have H64 := (s60.blk H57 (by omega))
 refine ⟨.inr ⟨H63, H64⟩, ?_⟩
 refine aw_last 9 (.bool (decide (fits (x * y)))) rfl (by kernel_rfl) .none (fun _ => dv_assign (T rfl rfl)) ?_
 refine aw_done (by kernel_rfl) ?_
 refine rk_ret Try.func62 (v := .tuple #[.agg #[.int .u64 (wv3 (x * y)), .int .u64 (wv2 (x * y)), .int .u64 (wv1 (x * y)), .int .u64 (wv0 (x * y))], .bool (decide (fits (x * y)))]) (res2 Try.results62 (rv_cells (l := [.int .u64 (wv3 (x * y)), .int .u64 (wv2 (x * y)), .int .u64 (wv1 (x * y)), .int .u64 (wv0 (x * y))]) agt26 sz26 rfl rfl H61 rfl) (rv_tmp rfl rfl)) ⟨_, rfl, ?_⟩
 exact ⟨(tu2 (ag4 (vi wp3) (vi wp2) (vi wp1) (vi wp0)) rfl), E62⟩
set_option maxHeartbeats 1000000 in
theorem sWideCmp_ok {w : World} {x y : Int} (fx_ : fits x) (fy_ : fits y)  : Ct Try.prog 15 [.agg #[.int .u64 (wv3 x), .int .u64 (wv2 x), .int .u64 (wv1 x), .int .u64 (wv0 x)], .agg #[.int .u64 (wv3 y), .int .u64 (wv2 y), .int .u64 (wv1 y), .int .u64 (wv0 y)]] w fun v w1 => v = .int .i64 (sgnI (x - y)) ∧ Ext w w1 := by
 refine ct_run (n := 10) Try.func15 rfl Try.ntmps15 rfl ?_
 have E0 : Below w.heap.size w w := Below.refl _ _
 refine rk_seq ?_
 refine rk_reg ?_
 refine lw_e (oe_box (v := .agg #[.int .u64 (wv3 x), .int .u64 (wv2 x), .int .u64 (wv1 x), .int .u64 (wv0 x)]) (cs := #[.int .u64 (wv3 x), .int .u64 (wv2 x), .int .u64 (wv1 x), .int .u64 (wv0 x)]) (T rfl rfl) rfl ?_)
 intro b1 w2 n3
 have N4 : w.heap.size ≤ b1 := n3.eq ▸ E0.size
 have E5 := below_ext E0 E0.size n3.ext
 refine lw_e (oe_box (v := .agg #[.int .u64 (wv3 y), .int .u64 (wv2 y), .int .u64 (wv1 y), .int .u64 (wv0 y)]) (cs := #[.int .u64 (wv3 y), .int .u64 (wv2 y), .int .u64 (wv1 y), .int .u64 (wv0 y)]) (T rfl rfl) rfl ?_)
 intro b6 w7 n8
 have N9 : w.heap.size ≤ b6 := n8.eq ▸ E5.size
 have : b1 < b6 := n8.eq ▸ lt_of_blk n3.blk
 have E10 := below_ext E5 E5.size n8.ext
 refine lw_v (.int .i64 0) (dv_assign C) ?_
 refine lw_nil ?_
 refine rk_seq ?_
 refine rk_any (fun w => w.heap[b1]? = some (.cells #[.int .u64 (wv3 x), .int .u64 (wv2 x), .int .u64 (wv1 x), .int .u64 (wv0 x)] 26) ∧ w.heap[b6]? = some (.cells #[.int .u64 (wv3 y), .int .u64 (wv2 y), .int .u64 (wv1 y), .int .u64 (wv0 y)] 26)) [5] mo ?_
 intro w11 d12
 have E13 := below_ext E10 E10.size d12.ext
 have H14 := (d12.ext.blk (n8.ext.blk n3.blk))
 have H15 := (d12.ext.blk n8.blk)
 refine aw_load 0 (.agg #[.int .u64 (wv3 x), .int .u64 (wv2 x), .int .u64 (wv1 x), .int .u64 (wv0 x)]) rfl (by kernel_rfl) .none ⟨H14, H15⟩ (fun _ s => dv_loads (l := [.int .u64 (wv3 x), .int .u64 (wv2 x), .int .u64 (wv1 x), .int .u64 (wv0 x)]) agt26 sz26 (T rfl rfl) s.1 rfl) ?_
 refine aw_load 2 (.agg #[.int .u64 (wv3 y), .int .u64 (wv2 y), .int .u64 (wv1 y), .int .u64 (wv0 y)]) rfl (by kernel_rfl) .none ⟨H14, H15⟩ (fun _ s => dv_loads (l := [.int .u64 (wv3 y), .int .u64 (wv2 y), .int .u64 (wv1 y), .int .u64 (wv0 y)]) agt26 sz26 (T rfl rfl) s.2 rfl) ?_
 refine aw_one 1 rfl (by kernel_rfl) .none (oe_callf (vs := [.agg #[.int .u64 (wv3 x), .int .u64 (wv2 x), .int .u64 (wv1 x), .int .u64 (wv0 x)]]) co49 (ar1 (T rfl rfl)) (l1Fromz_ok (z := x) fx_) ?_)
 rintro _ w21 ⟨nr16, A17, n18, c19, rfl, e22, h20⟩
 have E23 := below_ext E13 E13.size e22
 have lh20 := Num.len (by decide) h20
 have H24 := (e22.blk H14)
 have H25 := (e22.blk H15)
 refine ⟨.inr ⟨H24, H25⟩, ?_⟩
 refine aw_one 3 rfl (by kernel_rfl) .none (oe_callf (vs := [.agg #[.int .u64 (wv3 y), .int .u64 (wv2 y), .int .u64 (wv1 y), .int .u64 (wv0 y)]]) co49 (ar1 (T rfl rfl)) (l1Fromz_ok (z := y) fy_) ?_)
 rintro _ w31 ⟨nr26, A27, n28, c29, rfl, e32, h30⟩
 have E33 := below_ext E23 E23.size e32
 have lh30 := Num.len (by decide) h30
 have H34 := (e32.blk H24)
 have H35 := (e32.blk H25)
 refine ⟨.inr ⟨H34, H35⟩, ?_⟩
 have h36 := (h20.ext e32)
 refine aw_one 4 rfl (by kernel_rfl) .none (oe_callf (vs := [.agg #[.bool nr16, .slice A17 n18 c19], .agg #[.bool nr26, .slice A27 n28 c29]]) co48 (ar2 (T rfl rfl) (T rfl rfl)) (l1Cmp_ok h36 h30 (by first | decide | omega) (by first | decide | omega)) ?_)
 rintro _ w37 ⟨rfl, e38⟩
 have E39 := below_ext E33 E33.size e38
 have H40 := (e38.blk H34)
 have H41 := (e38.blk H35)
 refine ⟨.inr ⟨H40, H41⟩, ?_⟩
 refine aw_last 5 (.int .i64 (sgnI (x - y))) rfl (by kernel_rfl) .none (fun _ => dv_assign (T rfl rfl)) ?_
 refine aw_done (by kernel_rfl) ?_
 refine rk_ret Try.func15 (v := .int .i64 (sgnI (x - y))) (res1 Try.results15 (rv_tmp rfl rfl)) ⟨_, rfl, ?_⟩
 exact ⟨rfl, E39⟩
set_option maxHeartbeats 1000000 in
theorem lbig_ok {w : World} {A : Option Addr} {l c : Nat}  : Ct Try.prog 11 [.slice A l c] w fun v w1 => v = .bool (decide (1048576 < (l : Int))) ∧ Ext w w1 := by
 refine ct_run (n := 6) Try.func11 rfl Try.ntmps11 rfl ?_
 have E0 : Below w.heap.size w w := Below.refl _ _
 refine rk_seq ?_
 refine rk_reg ?_
 refine lw_v (.bool false) (dv_assign C) ?_
 refine lw_nil ?_
 refine rk_seq ?_
 refine rk_reg ?_
 refine lw_v (.slice A l c) (dv_move (T rfl rfl)) ?_
 refine lw_v (.int .i64 ((l : Int))) (dv_len (ad := A) (l := l) (c := c) us22 (T rfl rfl)) ?_
 refine lw_v (.bool (decide (1048576 < ((l : Int))))) (dv_gtr (a := (l : Int)) (b := 1048576) (T rfl rfl) C) ?_
 refine lw_v (.bool (decide (1048576 < ((l : Int))))) (dv_assign (T rfl rfl)) ?_
 refine lw_nil ?_
 refine rk_ret Try.func11 (v := .bool (decide (1048576 < ((l : Int))))) (res1 Try.results11 (rv_tmp rfl rfl)) ⟨_, rfl, ?_⟩
 exact ⟨(vb (by rfl)), E0⟩
set_option maxHeartbeats 1000000 in
theorem drawWideCmp_ok {w : World} {A : Option Addr} {l c : Nat} {xs : List Int} (hx : RdI w .u8 A xs) (hxl : xs.length = l) (hl : l ≤ 1048576) (ok : okW 256 xs) : Ct Try.prog 12 [.slice A l c] w fun v w1 => ∃ (x0_ : Int) (x1_ : Int), v = .tuple #[.agg #[.int .u64 (wv3 x0_), .int .u64 (wv2 x0_), .int .u64 (wv1 x0_), .int .u64 (wv0 x0_)], .agg #[.int .u64 (wv3 x1_), .int .u64 (wv2 x1_), .int .u64 (wv1 x1_), .int .u64 (wv0 x1_)]] ∧ Ext w w1 ∧ fits x0_ ∧ fits x1_ := by
 refine ct_run (n := 17) Try.func12 rfl Try.ntmps12 rfl ?_
 have E0 : Below w.heap.size w w := Below.refl _ _
 refine rk_seq ?_
 refine rk_reg ?_
 refine lw_e (oe_alloc ze26 ?_)
 intro b1 w2 n3
 have N4 : w.heap.size ≤ b1 := n3.eq ▸ E0.size
 have E5 := below_ext E0 E0.size n3.ext
 refine lw_e (oe_alloc ze26 ?_)
 intro b6 w7 n8
 have N9 : w.heap.size ≤ b6 := n8.eq ▸ E5.size
 have : b1 < b6 := n8.eq ▸ lt_of_blk n3.blk
 have E10 := below_ext E5 E5.size n8.ext
 refine lw_nil ?_
 refine rk_seq ?_
 refine rk_reg ?_
 refine lw_v (.slice A l c) (dv_move (T rfl rfl)) ?_
 have H16 := (n8.ext.blk n3.blk)
 have : b1 < w7.heap.size := lt_of_blk H16
 have : b6 < w7.heap.size := lt_of_blk n8.blk
 have : w.heap.size ≤ w7.heap.size := E10.size
 refine lw_e (oe_callf (vs := [.slice A l c]) co43 (ar1 (T rfl rfl)) (l1Open_ok) ?_)
 rintro _ w14 ⟨b11, rfl, e15, H12, hN13⟩
 have E17 := below_ext E10 E10.size e15
 have : b1 < b11 := by omega
 have : b6 < b11 := by omega
 have N18 : w.heap.size ≤ b11 := by omega
 refine lw_v (.pointer (some ⟨b11, 0, none⟩)) (dv_assign (T rfl rfl)) ?_
 refine lw_nil ?_
 refine rk_seq ?_
 refine rk_reg ?_
 refine lw_v (.pointer (some ⟨b11, 0, none⟩)) (dv_move (T rfl rfl)) ?_
 have h19 := (((hx.ext n3.ext).ext n8.ext).ext e15)
 refine lw_e (oe_callf (vs := [.pointer (some ⟨b11, 0, none⟩)]) co44 (ar1 (T rfl rfl)) (rwide_ok  h19 (by first | omega | (simp; done) | (simp; omega)) (by first | omega | (simp; done) | (simp; omega)) ok (hx.ne N18) H12 (by omega) ) ?_)
 rintro _ w26 ⟨zd20, p21, rfl, e27, H23, hp24, hz25⟩
 have E28 := below_bx E17 N18 e27
 refine lw_e (oe_alloc ze26 ?_)
 intro b29 w30 n31
 have N32 : w.heap.size ≤ b29 := n31.eq ▸ E28.size
 have : b11 < b29 := n31.eq ▸ lt_of_blk H23
 have E33 := below_ext E28 E28.size n31.ext
 refine lw_e (oe_store (v := .agg #[.int .u64 (wv3 zd20), .int .u64 (wv2 zd20), .int .u64 (wv1 zd20), .int .u64 (wv0 zd20)]) (vs := [.int .u64 (wv3 zd20), .int .u64 (wv2 zd20), .int .u64 (wv1 zd20), .int .u64 (wv0 zd20)]) (l := [.int .u64 (wv3 zd20), .int .u64 (wv2 zd20), .int .u64 (wv1 zd20), .int .u64 (wv0 zd20)]) (T rfl rfl) (T rfl rfl) sz26 rfl rfl rfl n31.blk rfl ?_)
 intro w34 s35 H36
 have E37 := below_st E33 N32 s35
 refine lw_nil ?_
 refine rk_seq ?_
 refine rk_seq ?_
 refine rk_reg ?_
 refine lw_v (.pointer (some ⟨b11, 0, none⟩)) (dv_move (T rfl rfl)) ?_
 have h38 := hx.ext E37
 have H39 := (s35.blk (n31.ext.blk H23) (by omega))
 refine lw_e (oe_callf (vs := [.pointer (some ⟨b11, 0, none⟩), .int .i64 5]) co45 (ar2 (T rfl rfl) C) (ronce_ok (n := 5) h38 (by first | omega | (simp; done) | (simp; omega)) (by first | omega | (simp; done) | (simp; omega)) ok (hx.ne N18) H39 (by omega) (by omega)) ?_)
 rintro _ w46 ⟨zb40, p41, rfl, e47, H43, hp44, _⟩
 have E48 := below_bx E37 N18 e47
 refine lw_nil ?_
 rcases Bool.eq_false_or_eq_true (zb40) with hb49 | hb49
 · refine rk_ct (T rfl (congrArg Value.bool hb49)) ?_
   refine rk_seq ?_
   refine rk_any (fun w => w.heap[b29]? = some (.cells #[.int .u64 (wv3 zd20), .int .u64 (wv2 zd20), .int .u64 (wv1 zd20), .int .u64 (wv0 zd20)] 26)) [3] mo ?_
   intro w50 d51
   have E52 := below_ext E48 E48.size d51.ext
   have H53 := (d51.ext.blk (bx_blk e47 H36 (by omega)))
   refine aw_load 0 (.agg #[.int .u64 (wv3 zd20), .int .u64 (wv2 zd20), .int .u64 (wv1 zd20), .int .u64 (wv0 zd20)]) rfl (by kernel_rfl) .none H53 (fun _ s => dv_loads (l := [.int .u64 (wv3 zd20), .int .u64 (wv2 zd20), .int .u64 (wv1 zd20), .int .u64 (wv0 zd20)]) agt26 sz26 (T rfl rfl) s rfl) ?_
   refine aw_load 1 (.agg #[.int .u64 (wv3 zd20), .int .u64 (wv2 zd20), .int .u64 (wv1 zd20), .int .u64 (wv0 zd20)]) rfl (by kernel_rfl) .none H53 (fun _ s => dv_loads (l := [.int .u64 (wv3 zd20), .int .u64 (wv2 zd20), .int .u64 (wv1 zd20), .int .u64 (wv0 zd20)]) agt26 sz26 (T rfl rfl) s rfl) ?_
   have H54 := (d51.ext.blk (bx_blk e47 (s35.blk (n31.ext.blk (bx_blk e27 (e15.blk H16) (by omega))) (by omega)) (by omega)))
   refine aw_one 2 rfl (by kernel_rfl) .none (oe_store (v := .agg #[.int .u64 (wv3 zd20), .int .u64 (wv2 zd20), .int .u64 (wv1 zd20), .int .u64 (wv0 zd20)]) (vs := [.int .u64 (wv3 zd20), .int .u64 (wv2 zd20), .int .u64 (wv1 zd20), .int .u64 (wv0 zd20)]) (l := [.int .u64 (wv3 zd20), .int .u64 (wv2 zd20), .int .u64 (wv1 zd20), .int .u64 (wv0 zd20)]) (T rfl rfl) (T rfl rfl) sz26 rfl rfl rfl H54 rfl ?_)
   intro w55 s56 H57
   have E58 := below_st E52 N4 s56
   have H59 := (s56.blk H53 (by omega))
   refine ⟨.inr H59, ?_⟩
   have H60 := (s56.blk (d51.ext.blk (bx_blk e47 (s35.blk (n31.ext.blk (bx_blk e27 (e15.blk n8.blk) (by omega))) (by omega)) (by omega))) (by omega))
   refine aw_one 3 rfl (by kernel_rfl) .none (oe_store (v := .agg #[.int .u64 (wv3 zd20), .int .u64 (wv2 zd20), .int .u64 (wv1 zd20), .int .u64 (wv0 zd20)]) (vs := [.int .u64 (wv3 zd20), .int .u64 (wv2 zd20), .int .u64 (wv1 zd20), .int .u64 (wv0 zd20)]) (l := [.int .u64 (wv3 zd20), .int .u64 (wv2 zd20), .int .u64 (wv1 zd20), .int .u64 (wv0 zd20)]) (T rfl rfl) (T rfl rfl) sz26 rfl rfl rfl H60 rfl ?_)
   intro w61 s62 H63
   have E64 := below_st E58 N9 s62
   refine ⟨.inl rfl, ?_⟩
   refine aw_done (by kernel_rfl) ?_
   have H65 := (s62.blk H57 (by omega))
   refine rk_ret Try.func12 (v := .tuple #[.agg #[.int .u64 (wv3 zd20), .int .u64 (wv2 zd20), .int .u64 (wv1 zd20), .int .u64 (wv0 zd20)], .agg #[.int .u64 (wv3 zd20), .int .u64 (wv2 zd20), .int .u64 (wv1 zd20), .int .u64 (wv0 zd20)]]) (res2 Try.results12 (rv_cells (l := [.int .u64 (wv3 zd20), .int .u64 (wv2 zd20), .int .u64 (wv1 zd20), .int .u64 (wv0 zd20)]) agt26 sz26 rfl rfl H65 rfl) (rv_cells (l := [.int .u64 (wv3 zd20), .int .u64 (wv2 zd20), .int .u64 (wv1 zd20), .int .u64 (wv0 zd20)]) agt26 sz26 rfl rfl H63 rfl)) ⟨_, rfl, ?_⟩
   exact ⟨zd20, zd20, (tu2 (ag4 rfl rfl rfl rfl) (ag4 rfl rfl rfl rfl)), E64, hz25, hz25⟩
 · refine rk_cf (T rfl (congrArg Value.bool hb49)) ?_
   refine rk_skip ?_
   refine rk_seq ?_
   refine rk_any (fun w => w.heap[b29]? = some (.cells #[.int .u64 (wv3 zd20), .int .u64 (wv2 zd20), .int .u64 (wv1 zd20), .int .u64 (wv0 zd20)] 26)) [4] mo ?_
   intro w66 d67
   have E68 := below_ext E48 E48.size d67.ext
   have H69 := (d67.ext.blk (bx_blk e47 H36 (by omega)))
   refine aw_load 0 (.agg #[.int .u64 (wv3 zd20), .int .u64 (wv2 zd20), .int .u64 (wv1 zd20), .int .u64 (wv0 zd20)]) rfl (by kernel_rfl) .none H69 (fun _ s => dv_loads (l := [.int .u64 (wv3 zd20), .int .u64 (wv2 zd20), .int .u64 (wv1 zd20), .int .u64 (wv0 zd20)]) agt26 sz26 (T rfl rfl) s rfl) ?_
   refine aw_pure 1 (.pointer (some ⟨b11, 0, none⟩)) rfl (by kernel_rfl) .none H69 (fun _ => dv_move (T rfl rfl)) ?_
   have h70 := hx.ext E68
   have H71 := (d67.ext.blk H43)
   refine aw_one 2 rfl (by kernel_rfl) .none (oe_callf (vs := [.pointer (some ⟨b11, 0, none⟩)]) co44 (ar1 (T rfl rfl)) (rwide_ok  h70 (by first | omega | (simp; done) | (simp; omega)) (by first | omega | (simp; done) | (simp; omega)) ok (hx.ne N18) H71 (by omega) ) ?_)
   rintro _ w78 ⟨zd72, p73, rfl, e79, H75, hp76, hz77⟩
   have E80 := below_bx E68 N18 e79
   have H81 := (bx_blk e79 H69 (by omega))
   refine ⟨.inr H81, ?_⟩
   have H82 := (bx_blk e79 (d67.ext.blk (bx_blk e47 (s35.blk (n31.ext.blk (bx_blk e27 (e15.blk H16) (by omega))) (by omega)) (by omega))) (by omega))
   refine aw_one 3 rfl (by kernel_rfl) .none (oe_store (v := .agg #[.int .u64 (wv3 zd20), .int .u64 (wv2 zd20), .int .u64 (wv1 zd20), .int .u64 (wv0 zd20)]) (vs := [.int .u64 (wv3 zd20), .int .u64 (wv2 zd20), .int .u64 (wv1 zd20), .int .u64 (wv0 zd20)]) (l := [.int .u64 (wv3 zd20), .int .u64 (wv2 zd20), .int .u64 (wv1 zd20), .int .u64 (wv0 zd20)]) (T rfl rfl) (T rfl rfl) sz26 rfl rfl rfl H82 rfl ?_)
   intro w83 s84 H85
   have E86 := below_st E80 N4 s84
   have H87 := (s84.blk H81 (by omega))
   refine ⟨.inr H87, ?_⟩
   have H88 := (s84.blk (bx_blk e79 (d67.ext.blk (bx_blk e47 (s35.blk (n31.ext.blk (bx_blk e27 (e15.blk n8.blk) (by omega))) (by omega)) (by omega))) (by omega)) (by omega))
   refine aw_one 4 rfl (by kernel_rfl) .none (oe_store (v := .agg #[.int .u64 (wv3 zd72), .int .u64 (wv2 zd72), .int .u64 (wv1 zd72), .int .u64 (wv0 zd72)]) (vs := [.int .u64 (wv3 zd72), .int .u64 (wv2 zd72), .int .u64 (wv1 zd72), .int .u64 (wv0 zd72)]) (l := [.int .u64 (wv3 zd72), .int .u64 (wv2 zd72), .int .u64 (wv1 zd72), .int .u64 (wv0 zd72)]) (T rfl rfl) (T rfl rfl) sz26 rfl rfl rfl H88 rfl ?_)
   intro w89 s90 H91
   have E92 := below_st E86 N9 s90
   refine ⟨.inl rfl, ?_⟩
   refine aw_done (by kernel_rfl) ?_
   have H93 := (s90.blk H85 (by omega))
   refine rk_ret Try.func12 (v := .tuple #[.agg #[.int .u64 (wv3 zd20), .int .u64 (wv2 zd20), .int .u64 (wv1 zd20), .int .u64 (wv0 zd20)], .agg #[.int .u64 (wv3 zd72), .int .u64 (wv2 zd72), .int .u64 (wv1 zd72), .int .u64 (wv0 zd72)]]) (res2 Try.results12 (rv_cells (l := [.int .u64 (wv3 zd20), .int .u64 (wv2 zd20), .int .u64 (wv1 zd20), .int .u64 (wv0 zd20)]) agt26 sz26 rfl rfl H93 rfl) (rv_cells (l := [.int .u64 (wv3 zd72), .int .u64 (wv2 zd72), .int .u64 (wv1 zd72), .int .u64 (wv0 zd72)]) agt26 sz26 rfl rfl H91 rfl)) ⟨_, rfl, ?_⟩
   exact ⟨zd20, zd72, (tu2 (ag4 rfl rfl rfl rfl) (ag4 rfl rfl rfl rfl)), E92, hz25, hz77⟩
set_option maxHeartbeats 1000000 in
theorem drawWideAdd_ok {w : World} {A : Option Addr} {l c : Nat} {xs : List Int} (hx : RdI w .u8 A xs) (hxl : xs.length = l) (hl : l ≤ 1048576) (ok : okW 256 xs) : Ct Try.prog 13 [.slice A l c] w fun v w1 => ∃ (x0_ : Int) (x1_ : Int), v = .tuple #[.agg #[.int .u64 (wv3 x0_), .int .u64 (wv2 x0_), .int .u64 (wv1 x0_), .int .u64 (wv0 x0_)], .agg #[.int .u64 (wv3 x1_), .int .u64 (wv2 x1_), .int .u64 (wv1 x1_), .int .u64 (wv0 x1_)]] ∧ Ext w w1 ∧ fits x0_ ∧ fits x1_ := by
 refine ct_run (n := 11) Try.func13 rfl Try.ntmps13 rfl ?_
 have E0 : Below w.heap.size w w := Below.refl _ _
 refine rk_seq ?_
 refine rk_reg ?_
 refine lw_e (oe_alloc ze26 ?_)
 intro b1 w2 n3
 have N4 : w.heap.size ≤ b1 := n3.eq ▸ E0.size
 have E5 := below_ext E0 E0.size n3.ext
 refine lw_e (oe_alloc ze26 ?_)
 intro b6 w7 n8
 have N9 : w.heap.size ≤ b6 := n8.eq ▸ E5.size
 have : b1 < b6 := n8.eq ▸ lt_of_blk n3.blk
 have E10 := below_ext E5 E5.size n8.ext
 refine lw_nil ?_
 refine rk_seq ?_
 refine rk_reg ?_
 refine lw_v (.slice A l c) (dv_move (T rfl rfl)) ?_
 have H16 := (n8.ext.blk n3.blk)
 have : b1 < w7.heap.size := lt_of_blk H16
 have : b6 < w7.heap.size := lt_of_blk n8.blk
 have : w.heap.size ≤ w7.heap.size := E10.size
 refine lw_e (oe_callf (vs := [.slice A l c]) co43 (ar1 (T rfl rfl)) (l1Open_ok) ?_)
 rintro _ w14 ⟨b11, rfl, e15, H12, hN13⟩
 have E17 := below_ext E10 E10.size e15
 have : b1 < b11 := by omega
 have : b6 < b11 := by omega
 have N18 : w.heap.size ≤ b11 := by omega
 refine lw_v (.pointer (some ⟨b11, 0, none⟩)) (dv_assign (T rfl rfl)) ?_
 refine lw_nil ?_
 refine rk_seq ?_
 refine rk_reg ?_
 refine lw_v (.pointer (some ⟨b11, 0, none⟩)) (dv_move (T rfl rfl)) ?_
 have h19 := (((hx.ext n3.ext).ext n8.ext).ext e15)
 refine lw_e (oe_callf (vs := [.pointer (some ⟨b11, 0, none⟩)]) co44 (ar1 (T rfl rfl)) (rwide_ok  h19 (by first | omega | (simp; done) | (simp; omega)) (by first | omega | (simp; done) | (simp; omega)) ok (hx.ne N18) H12 (by omega) ) ?_)
 rintro _ w26 ⟨zd20, p21, rfl, e27, H23, hp24, hz25⟩
 have E28 := below_bx E17 N18 e27
 refine lw_v (.pointer (some ⟨b11, 0, none⟩)) (dv_move (T rfl rfl)) ?_
 have h29 := hx.ext E28
 refine lw_e (oe_callf (vs := [.pointer (some ⟨b11, 0, none⟩)]) co44 (ar1 (T rfl rfl)) (rwide_ok  h29 (by first | omega | (simp; done) | (simp; omega)) (by first | omega | (simp; done) | (simp; omega)) ok (hx.ne N18) H23 (by omega) ) ?_)
 rintro _ w36 ⟨zd30, p31, rfl, e37, H33, hp34, hz35⟩
 have E38 := below_bx E28 N18 e37
 have H39 := (bx_blk e37 (bx_blk e27 (e15.blk H16) (by omega)) (by omega))
 refine lw_e (oe_store (v := .agg #[.int .u64 (wv3 zd20), .int .u64 (wv2 zd20), .int .u64 (wv1 zd20), .int .u64 (wv0 zd20)]) (vs := [.int .u64 (wv3 zd20), .int .u64 (wv2 zd20), .int .u64 (wv1 zd20), .int .u64 (wv0 zd20)]) (l := [.int .u64 (wv3 zd20), .int .u64 (wv2 zd20), .int .u64 (wv1 zd20), .int .u64 (wv0 zd20)]) (T rfl rfl) (T rfl rfl) sz26 rfl rfl rfl H39 rfl ?_)
 intro w40 s41 H42
 have E43 := below_st E38 N4 s41
 have H44 := (s41.blk (bx_blk e37 (bx_blk e27 (e15.blk n8.blk) (by omega)) (by omega)) (by omega))
 refine lw_e (oe_store (v := .agg #[.int .u64 (wv3 zd30), .int .u64 (wv2 zd30), .int .u64 (wv1 zd30), .int .u64 (wv0 zd30)]) (vs := [.int .u64 (wv3 zd30), .int .u64 (wv2 zd30), .int .u64 (wv1 zd30), .int .u64 (wv0 zd30)]) (l := [.int .u64 (wv3 zd30), .int .u64 (wv2 zd30), .int .u64 (wv1 zd30), .int .u64 (wv0 zd30)]) (T rfl rfl) (T rfl rfl) sz26 rfl rfl rfl H44 rfl ?_)
 intro w45 s46 H47
 have E48 := below_st E43 N9 s46
 refine lw_nil ?_
 have H49 := (s46.blk H42 (by omega))
 refine rk_ret Try.func13 (v := .tuple #[.agg #[.int .u64 (wv3 zd20), .int .u64 (wv2 zd20), .int .u64 (wv1 zd20), .int .u64 (wv0 zd20)], .agg #[.int .u64 (wv3 zd30), .int .u64 (wv2 zd30), .int .u64 (wv1 zd30), .int .u64 (wv0 zd30)]]) (res2 Try.results13 (rv_cells (l := [.int .u64 (wv3 zd20), .int .u64 (wv2 zd20), .int .u64 (wv1 zd20), .int .u64 (wv0 zd20)]) agt26 sz26 rfl rfl H49 rfl) (rv_cells (l := [.int .u64 (wv3 zd30), .int .u64 (wv2 zd30), .int .u64 (wv1 zd30), .int .u64 (wv0 zd30)]) agt26 sz26 rfl rfl H47 rfl)) ⟨_, rfl, ?_⟩
 exact ⟨zd20, zd30, (tu2 (ag4 rfl rfl rfl rfl) (ag4 rfl rfl rfl rfl)), E48, hz25, hz35⟩
set_option maxHeartbeats 1000000 in
theorem drawWideMul_ok {w : World} {A : Option Addr} {l c : Nat} {xs : List Int} (hx : RdI w .u8 A xs) (hxl : xs.length = l) (hl : l ≤ 1048576) (ok : okW 256 xs) : Ct Try.prog 18 [.slice A l c] w fun v w1 => ∃ (x0_ : Int) (x1_ : Int), v = .tuple #[.agg #[.int .u64 (wv3 x0_), .int .u64 (wv2 x0_), .int .u64 (wv1 x0_), .int .u64 (wv0 x0_)], .agg #[.int .u64 (wv3 x1_), .int .u64 (wv2 x1_), .int .u64 (wv1 x1_), .int .u64 (wv0 x1_)]] ∧ Ext w w1 ∧ fits x0_ ∧ fits x1_ := by
 refine ct_run (n := 11) Try.func18 rfl Try.ntmps18 rfl ?_
 have E0 : Below w.heap.size w w := Below.refl _ _
 refine rk_seq ?_
 refine rk_reg ?_
 refine lw_e (oe_alloc ze26 ?_)
 intro b1 w2 n3
 have N4 : w.heap.size ≤ b1 := n3.eq ▸ E0.size
 have E5 := below_ext E0 E0.size n3.ext
 refine lw_e (oe_alloc ze26 ?_)
 intro b6 w7 n8
 have N9 : w.heap.size ≤ b6 := n8.eq ▸ E5.size
 have : b1 < b6 := n8.eq ▸ lt_of_blk n3.blk
 have E10 := below_ext E5 E5.size n8.ext
 refine lw_nil ?_
 refine rk_seq ?_
 refine rk_reg ?_
 refine lw_v (.slice A l c) (dv_move (T rfl rfl)) ?_
 have H16 := (n8.ext.blk n3.blk)
 have : b1 < w7.heap.size := lt_of_blk H16
 have : b6 < w7.heap.size := lt_of_blk n8.blk
 have : w.heap.size ≤ w7.heap.size := E10.size
 refine lw_e (oe_callf (vs := [.slice A l c]) co43 (ar1 (T rfl rfl)) (l1Open_ok) ?_)
 rintro _ w14 ⟨b11, rfl, e15, H12, hN13⟩
 have E17 := below_ext E10 E10.size e15
 have : b1 < b11 := by omega
 have : b6 < b11 := by omega
 have N18 : w.heap.size ≤ b11 := by omega
 refine lw_v (.pointer (some ⟨b11, 0, none⟩)) (dv_assign (T rfl rfl)) ?_
 refine lw_nil ?_
 refine rk_seq ?_
 refine rk_reg ?_
 refine lw_v (.pointer (some ⟨b11, 0, none⟩)) (dv_move (T rfl rfl)) ?_
 have h19 := (((hx.ext n3.ext).ext n8.ext).ext e15)
 refine lw_e (oe_callf (vs := [.pointer (some ⟨b11, 0, none⟩)]) co44 (ar1 (T rfl rfl)) (rwide_ok  h19 (by first | omega | (simp; done) | (simp; omega)) (by first | omega | (simp; done) | (simp; omega)) ok (hx.ne N18) H12 (by omega) ) ?_)
 rintro _ w26 ⟨zd20, p21, rfl, e27, H23, hp24, hz25⟩
 have E28 := below_bx E17 N18 e27
 refine lw_v (.pointer (some ⟨b11, 0, none⟩)) (dv_move (T rfl rfl)) ?_
 have h29 := hx.ext E28
 refine lw_e (oe_callf (vs := [.pointer (some ⟨b11, 0, none⟩)]) co44 (ar1 (T rfl rfl)) (rwide_ok  h29 (by first | omega | (simp; done) | (simp; omega)) (by first | omega | (simp; done) | (simp; omega)) ok (hx.ne N18) H23 (by omega) ) ?_)
 rintro _ w36 ⟨zd30, p31, rfl, e37, H33, hp34, hz35⟩
 have E38 := below_bx E28 N18 e37
 have H39 := (bx_blk e37 (bx_blk e27 (e15.blk H16) (by omega)) (by omega))
 refine lw_e (oe_store (v := .agg #[.int .u64 (wv3 zd20), .int .u64 (wv2 zd20), .int .u64 (wv1 zd20), .int .u64 (wv0 zd20)]) (vs := [.int .u64 (wv3 zd20), .int .u64 (wv2 zd20), .int .u64 (wv1 zd20), .int .u64 (wv0 zd20)]) (l := [.int .u64 (wv3 zd20), .int .u64 (wv2 zd20), .int .u64 (wv1 zd20), .int .u64 (wv0 zd20)]) (T rfl rfl) (T rfl rfl) sz26 rfl rfl rfl H39 rfl ?_)
 intro w40 s41 H42
 have E43 := below_st E38 N4 s41
 have H44 := (s41.blk (bx_blk e37 (bx_blk e27 (e15.blk n8.blk) (by omega)) (by omega)) (by omega))
 refine lw_e (oe_store (v := .agg #[.int .u64 (wv3 zd30), .int .u64 (wv2 zd30), .int .u64 (wv1 zd30), .int .u64 (wv0 zd30)]) (vs := [.int .u64 (wv3 zd30), .int .u64 (wv2 zd30), .int .u64 (wv1 zd30), .int .u64 (wv0 zd30)]) (l := [.int .u64 (wv3 zd30), .int .u64 (wv2 zd30), .int .u64 (wv1 zd30), .int .u64 (wv0 zd30)]) (T rfl rfl) (T rfl rfl) sz26 rfl rfl rfl H44 rfl ?_)
 intro w45 s46 H47
 have E48 := below_st E43 N9 s46
 refine lw_nil ?_
 have H49 := (s46.blk H42 (by omega))
 refine rk_ret Try.func18 (v := .tuple #[.agg #[.int .u64 (wv3 zd20), .int .u64 (wv2 zd20), .int .u64 (wv1 zd20), .int .u64 (wv0 zd20)], .agg #[.int .u64 (wv3 zd30), .int .u64 (wv2 zd30), .int .u64 (wv1 zd30), .int .u64 (wv0 zd30)]]) (res2 Try.results18 (rv_cells (l := [.int .u64 (wv3 zd20), .int .u64 (wv2 zd20), .int .u64 (wv1 zd20), .int .u64 (wv0 zd20)]) agt26 sz26 rfl rfl H49 rfl) (rv_cells (l := [.int .u64 (wv3 zd30), .int .u64 (wv2 zd30), .int .u64 (wv1 zd30), .int .u64 (wv0 zd30)]) agt26 sz26 rfl rfl H47 rfl)) ⟨_, rfl, ?_⟩
 exact ⟨zd20, zd30, (tu2 (ag4 rfl rfl rfl rfl) (ag4 rfl rfl rfl rfl)), E48, hz25, hz35⟩
set_option maxHeartbeats 1000000 in
theorem drawWideDiv_ok {w : World} {A : Option Addr} {l c : Nat} {xs : List Int} (hx : RdI w .u8 A xs) (hxl : xs.length = l) (hl : l ≤ 1048576) (ok : okW 256 xs) : Ct Try.prog 35 [.slice A l c] w fun v w1 => ∃ (x0_ : Int) (x1_ : Int), v = .tuple #[.agg #[.int .u64 (wv3 x0_), .int .u64 (wv2 x0_), .int .u64 (wv1 x0_), .int .u64 (wv0 x0_)], .agg #[.int .u64 (wv3 x1_), .int .u64 (wv2 x1_), .int .u64 (wv1 x1_), .int .u64 (wv0 x1_)]] ∧ Ext w w1 ∧ fits x0_ ∧ fits x1_ := by
 refine ct_run (n := 11) Try.func35 rfl Try.ntmps35 rfl ?_
 have E0 : Below w.heap.size w w := Below.refl _ _
 refine rk_seq ?_
 refine rk_reg ?_
 refine lw_e (oe_alloc ze26 ?_)
 intro b1 w2 n3
 have N4 : w.heap.size ≤ b1 := n3.eq ▸ E0.size
 have E5 := below_ext E0 E0.size n3.ext
 refine lw_e (oe_alloc ze26 ?_)
 intro b6 w7 n8
 have N9 : w.heap.size ≤ b6 := n8.eq ▸ E5.size
 have : b1 < b6 := n8.eq ▸ lt_of_blk n3.blk
 have E10 := below_ext E5 E5.size n8.ext
 refine lw_nil ?_
 refine rk_seq ?_
 refine rk_reg ?_
 refine lw_v (.slice A l c) (dv_move (T rfl rfl)) ?_
 have H16 := (n8.ext.blk n3.blk)
 have : b1 < w7.heap.size := lt_of_blk H16
 have : b6 < w7.heap.size := lt_of_blk n8.blk
 have : w.heap.size ≤ w7.heap.size := E10.size
 refine lw_e (oe_callf (vs := [.slice A l c]) co43 (ar1 (T rfl rfl)) (l1Open_ok) ?_)
 rintro _ w14 ⟨b11, rfl, e15, H12, hN13⟩
 have E17 := below_ext E10 E10.size e15
 have : b1 < b11 := by omega
 have : b6 < b11 := by omega
 have N18 : w.heap.size ≤ b11 := by omega
 refine lw_v (.pointer (some ⟨b11, 0, none⟩)) (dv_assign (T rfl rfl)) ?_
 refine lw_nil ?_
 refine rk_seq ?_
 refine rk_reg ?_
 refine lw_v (.pointer (some ⟨b11, 0, none⟩)) (dv_move (T rfl rfl)) ?_
 have h19 := (((hx.ext n3.ext).ext n8.ext).ext e15)
 refine lw_e (oe_callf (vs := [.pointer (some ⟨b11, 0, none⟩)]) co44 (ar1 (T rfl rfl)) (rwide_ok  h19 (by first | omega | (simp; done) | (simp; omega)) (by first | omega | (simp; done) | (simp; omega)) ok (hx.ne N18) H12 (by omega) ) ?_)
 rintro _ w26 ⟨zd20, p21, rfl, e27, H23, hp24, hz25⟩
 have E28 := below_bx E17 N18 e27
 refine lw_v (.pointer (some ⟨b11, 0, none⟩)) (dv_move (T rfl rfl)) ?_
 have h29 := hx.ext E28
 refine lw_e (oe_callf (vs := [.pointer (some ⟨b11, 0, none⟩)]) co44 (ar1 (T rfl rfl)) (rwide_ok  h29 (by first | omega | (simp; done) | (simp; omega)) (by first | omega | (simp; done) | (simp; omega)) ok (hx.ne N18) H23 (by omega) ) ?_)
 rintro _ w36 ⟨zd30, p31, rfl, e37, H33, hp34, hz35⟩
 have E38 := below_bx E28 N18 e37
 have H39 := (bx_blk e37 (bx_blk e27 (e15.blk H16) (by omega)) (by omega))
 refine lw_e (oe_store (v := .agg #[.int .u64 (wv3 zd20), .int .u64 (wv2 zd20), .int .u64 (wv1 zd20), .int .u64 (wv0 zd20)]) (vs := [.int .u64 (wv3 zd20), .int .u64 (wv2 zd20), .int .u64 (wv1 zd20), .int .u64 (wv0 zd20)]) (l := [.int .u64 (wv3 zd20), .int .u64 (wv2 zd20), .int .u64 (wv1 zd20), .int .u64 (wv0 zd20)]) (T rfl rfl) (T rfl rfl) sz26 rfl rfl rfl H39 rfl ?_)
 intro w40 s41 H42
 have E43 := below_st E38 N4 s41
 have H44 := (s41.blk (bx_blk e37 (bx_blk e27 (e15.blk n8.blk) (by omega)) (by omega)) (by omega))
 refine lw_e (oe_store (v := .agg #[.int .u64 (wv3 zd30), .int .u64 (wv2 zd30), .int .u64 (wv1 zd30), .int .u64 (wv0 zd30)]) (vs := [.int .u64 (wv3 zd30), .int .u64 (wv2 zd30), .int .u64 (wv1 zd30), .int .u64 (wv0 zd30)]) (l := [.int .u64 (wv3 zd30), .int .u64 (wv2 zd30), .int .u64 (wv1 zd30), .int .u64 (wv0 zd30)]) (T rfl rfl) (T rfl rfl) sz26 rfl rfl rfl H44 rfl ?_)
 intro w45 s46 H47
 have E48 := below_st E43 N9 s46
 refine lw_nil ?_
 have H49 := (s46.blk H42 (by omega))
 refine rk_ret Try.func35 (v := .tuple #[.agg #[.int .u64 (wv3 zd20), .int .u64 (wv2 zd20), .int .u64 (wv1 zd20), .int .u64 (wv0 zd20)], .agg #[.int .u64 (wv3 zd30), .int .u64 (wv2 zd30), .int .u64 (wv1 zd30), .int .u64 (wv0 zd30)]]) (res2 Try.results35 (rv_cells (l := [.int .u64 (wv3 zd20), .int .u64 (wv2 zd20), .int .u64 (wv1 zd20), .int .u64 (wv0 zd20)]) agt26 sz26 rfl rfl H49 rfl) (rv_cells (l := [.int .u64 (wv3 zd30), .int .u64 (wv2 zd30), .int .u64 (wv1 zd30), .int .u64 (wv0 zd30)]) agt26 sz26 rfl rfl H47 rfl)) ⟨_, rfl, ?_⟩
 exact ⟨zd20, zd30, (tu2 (ag4 rfl rfl rfl rfl) (ag4 rfl rfl rfl rfl)), E48, hz25, hz35⟩
set_option maxHeartbeats 1000000 in
theorem drawWideGcd_ok {w : World} {A : Option Addr} {l c : Nat} {xs : List Int} (hx : RdI w .u8 A xs) (hxl : xs.length = l) (hl : l ≤ 1048576) (ok : okW 256 xs) : Ct Try.prog 26 [.slice A l c] w fun v w1 => ∃ (x0_ : Int) (x1_ : Int), v = .tuple #[.agg #[.int .u64 (wv3 x0_), .int .u64 (wv2 x0_), .int .u64 (wv1 x0_), .int .u64 (wv0 x0_)], .agg #[.int .u64 (wv3 x1_), .int .u64 (wv2 x1_), .int .u64 (wv1 x1_), .int .u64 (wv0 x1_)]] ∧ Ext w w1 ∧ fits x0_ ∧ fits x1_ := by
 refine ct_run (n := 44) Try.func26 rfl Try.ntmps26 rfl ?_
 have E0 : Below w.heap.size w w := Below.refl _ _
 refine rk_seq ?_
 refine rk_reg ?_
 refine lw_e (oe_alloc ze26 ?_)
 intro b1 w2 n3
 have N4 : w.heap.size ≤ b1 := n3.eq ▸ E0.size
 have E5 := below_ext E0 E0.size n3.ext
 refine lw_e (oe_alloc ze26 ?_)
 intro b6 w7 n8
 have N9 : w.heap.size ≤ b6 := n8.eq ▸ E5.size
 have : b1 < b6 := n8.eq ▸ lt_of_blk n3.blk
 have E10 := below_ext E5 E5.size n8.ext
 refine lw_nil ?_
 refine rk_seq ?_
 refine rk_reg ?_
 refine lw_v (.slice A l c) (dv_move (T rfl rfl)) ?_
 have H16 := (n8.ext.blk n3.blk)
 have : b1 < w7.heap.size := lt_of_blk H16
 have : b6 < w7.heap.size := lt_of_blk n8.blk
 have : w.heap.size ≤ w7.heap.size := E10.size
 refine lw_e (oe_callf (vs := [.slice A l c]) co43 (ar1 (T rfl rfl)) (l1Open_ok) ?_)
 rintro _ w14 ⟨b11, rfl, e15, H12, hN13⟩
 have E17 := below_ext E10 E10.size e15
 have : b1 < b11 := by omega
 have : b6 < b11 := by omega
 have N18 : w.heap.size ≤ b11 := by omega
 refine lw_v (.pointer (some ⟨b11, 0, none⟩)) (dv_assign (T rfl rfl)) ?_
 refine lw_nil ?_
 refine rk_seq ?_
 refine rk_reg ?_
 refine lw_v (.pointer (some ⟨b11, 0, none⟩)) (dv_move (T rfl rfl)) ?_
 have h19 := (((hx.ext n3.ext).ext n8.ext).ext e15)
 refine lw_e (oe_callf (vs := [.pointer (some ⟨b11, 0, none⟩)]) co44 (ar1 (T rfl rfl)) (rwide_ok  h19 (by first | omega | (simp; done) | (simp; omega)) (by first | omega | (simp; done) | (simp; omega)) ok (hx.ne N18) H12 (by omega) ) ?_)
 rintro _ w26 ⟨zd20, p21, rfl, e27, H23, hp24, hz25⟩
 have E28 := below_bx E17 N18 e27
 refine lw_e (oe_alloc ze26 ?_)
 intro b29 w30 n31
 have N32 : w.heap.size ≤ b29 := n31.eq ▸ E28.size
 have : b11 < b29 := n31.eq ▸ lt_of_blk H23
 have E33 := below_ext E28 E28.size n31.ext
 refine lw_e (oe_store (v := .agg #[.int .u64 (wv3 zd20), .int .u64 (wv2 zd20), .int .u64 (wv1 zd20), .int .u64 (wv0 zd20)]) (vs := [.int .u64 (wv3 zd20), .int .u64 (wv2 zd20), .int .u64 (wv1 zd20), .int .u64 (wv0 zd20)]) (l := [.int .u64 (wv3 zd20), .int .u64 (wv2 zd20), .int .u64 (wv1 zd20), .int .u64 (wv0 zd20)]) (T rfl rfl) (T rfl rfl) sz26 rfl rfl rfl n31.blk rfl ?_)
 intro w34 s35 H36
 have E37 := below_st E33 N32 s35
 refine lw_nil ?_
 refine rk_seq ?_
 refine rk_reg ?_
 refine lw_v (.pointer (some ⟨b11, 0, none⟩)) (dv_move (T rfl rfl)) ?_
 have h38 := hx.ext E37
 have H39 := (s35.blk (n31.ext.blk H23) (by omega))
 refine lw_e (oe_callf (vs := [.pointer (some ⟨b11, 0, none⟩)]) co44 (ar1 (T rfl rfl)) (rwide_ok  h38 (by first | omega | (simp; done) | (simp; omega)) (by first | omega | (simp; done) | (simp; omega)) ok (hx.ne N18) H39 (by omega) ) ?_)
 rintro _ w46 ⟨zd40, p41, rfl, e47, H43, hp44, hz45⟩
 have E48 := below_bx E37 N18 e47
 refine lw_e (oe_alloc ze26 ?_)
 intro b49 w50 n51
 have N52 : w.heap.size ≤ b49 := n51.eq ▸ E48.size
 have H53 := (bx_blk e47 H36 (by omega))
 have : b29 < b49 := n51.eq ▸ lt_of_blk H53
 have E54 := below_ext E48 E48.size n51.ext
 refine lw_e (oe_store (v := .agg #[.int .u64 (wv3 zd40), .int .u64 (wv2 zd40), .int .u64 (wv1 zd40), .int .u64 (wv0 zd40)]) (vs := [.int .u64 (wv3 zd40), .int .u64 (wv2 zd40), .int .u64 (wv1 zd40), .int .u64 (wv0 zd40)]) (l := [.int .u64 (wv3 zd40), .int .u64 (wv2 zd40), .int .u64 (wv1 zd40), .int .u64 (wv0 zd40)]) (T rfl rfl) (T rfl rfl) sz26 rfl rfl rfl n51.blk rfl ?_)
 intro w55 s56 H57
 have E58 := below_st E54 N52 s56
 refine lw_nil ?_
 refine rk_seq ?_
 refine rk_seq ?_
 refine rk_reg ?_
 refine lw_v (.pointer (some ⟨b11, 0, none⟩)) (dv_move (T rfl rfl)) ?_
 have h59 := hx.ext E58
 have H60 := (s56.blk (n51.ext.blk H43) (by omega))
 refine lw_e (oe_callf (vs := [.pointer (some ⟨b11, 0, none⟩), .int .i64 2]) co45 (ar2 (T rfl rfl) C) (ronce_ok (n := 2) h59 (by first | omega | (simp; done) | (simp; omega)) (by first | omega | (simp; done) | (simp; omega)) ok (hx.ne N18) H60 (by omega) (by omega)) ?_)
 rintro _ w67 ⟨zb61, p62, rfl, e68, H64, hp65, _⟩
 have E69 := below_bx E58 N18 e68
 refine lw_nil ?_
 rcases Bool.eq_false_or_eq_true (zb61) with hb70 | hb70
 · refine rk_ct (T rfl (congrArg Value.bool hb70)) ?_
   refine rk_seq ?_
   refine rk_reg ?_
   refine lw_v (.pointer (some ⟨b11, 0, none⟩)) (dv_move (T rfl rfl)) ?_
   have h71 := hx.ext E69
   refine lw_e (oe_callf (vs := [.pointer (some ⟨b11, 0, none⟩), .int .i64 40]) co61 (ar2 (T rfl rfl) C) (rbelow_ok (n := 40) h71 (by first | omega | (simp; done) | (simp; omega)) (by first | omega | (simp; done) | (simp; omega)) ok (hx.ne N18) H64 (by omega) ) ?_)
   rintro _ w78 ⟨zi72, p73, rfl, e79, H75, hp76, hz77⟩
   have E80 := below_bx E69 N18 e79
   refine lw_v (.int .i64 (2 + zi72)) (dv_add (a := 2) (b := zi72) (z := 2 + zi72) C (T rfl rfl) (wr_i64 (by omega) (by omega))) ?_
   refine lw_e (oe_callf (vs := [.int .i64 (2 + zi72)]) co60 (ar1 (T rfl rfl)) (sWideOf_ok (x := 2 + zi72)  (by omega)) ?_)
   rintro _ w81 ⟨rfl, e82⟩
   have E83 := below_ext E80 E80.size e82
   refine lw_e (oe_alloc ze26 ?_)
   intro b84 w85 n86
   have N87 : w.heap.size ≤ b84 := n86.eq ▸ E83.size
   have H88 := (e82.blk (bx_blk e79 (bx_blk e68 H57 (by omega)) (by omega)))
   have : b49 < b84 := n86.eq ▸ lt_of_blk H88
   have E89 := below_ext E83 E83.size n86.ext
   refine lw_e (oe_store (v := .agg #[.int .u64 (wv3 (2 + zi72)), .int .u64 (wv2 (2 + zi72)), .int .u64 (wv1 (2 + zi72)), .int .u64 (wv0 (2 + zi72))]) (vs := [.int .u64 (wv3 (2 + zi72)), .int .u64 (wv2 (2 + zi72)), .int .u64 (wv1 (2 + zi72)), .int .u64 (wv0 (2 + zi72))]) (l := [.int .u64 (wv3 (2 + zi72)), .int .u64 (wv2 (2 + zi72)), .int .u64 (wv1 (2 + zi72)), .int .u64 (wv0 (2 + zi72))]) (T rfl rfl) (T rfl rfl) sz26 rfl rfl rfl n86.blk rfl ?_)
   intro w90 s91 H92
   have E93 := below_st E89 N87 s91
   refine lw_nil ?_
   refine rk_seq ?_
   refine rk_reg ?_
   have H94 := (s91.blk (n86.ext.blk (e82.blk (bx_blk e79 (bx_blk e68 (s56.blk (n51.ext.blk H53) (by omega)) (by omega)) (by omega)))) (by omega))
   refine lw_v (.agg #[.int .u64 (wv3 zd20), .int .u64 (wv2 zd20), .int .u64 (wv1 zd20), .int .u64 (wv0 zd20)]) (dv_loads (l := [.int .u64 (wv3 zd20), .int .u64 (wv2 zd20), .int .u64 (wv1 zd20), .int .u64 (wv0 zd20)]) agt26 sz26 (T rfl rfl) H94 rfl) ?_
   refine lw_v (.agg #[.int .u64 (wv3 (2 + zi72)), .int .u64 (wv2 (2 + zi72)), .int .u64 (wv1 (2 + zi72)), .int .u64 (wv0 (2 + zi72))]) (dv_loads (l := [.int .u64 (wv3 (2 + zi72)), .int .u64 (wv2 (2 + zi72)), .int .u64 (wv1 (2 + zi72)), .int .u64 (wv0 (2 + zi72))]) agt26 sz26 (T rfl rfl) H92 rfl) ?_
   refine lw_e (oe_callf (vs := [.agg #[.int .u64 (wv3 zd20), .int .u64 (wv2 zd20), .int .u64 (wv1 zd20), .int .u64 (wv0 zd20)], .agg #[.int .u64 (wv3 (2 + zi72)), .int .u64 (wv2 (2 + zi72)), .int .u64 (wv1 (2 + zi72)), .int .u64 (wv0 (2 + zi72))]]) co62 (ar2 (T rfl rfl) (T rfl rfl)) (sWideMul_ok (x := zd20) (y := 2 + zi72) hz25 (fits_i (by omega)) ) ?_)
   rintro _ w95 ⟨rfl, e96⟩
   have E97 := below_ext E93 E93.size e96
   refine lw_v (.tuple #[.agg #[.int .u64 (wv3 (fz (zd20 * (2 + zi72)))), .int .u64 (wv2 (fz (zd20 * (2 + zi72)))), .int .u64 (wv1 (fz (zd20 * (2 + zi72)))), .int .u64 (wv0 (fz (zd20 * (2 + zi72))))], .bool (decide (fits (zd20 * (2 + zi72))))]) (dv_move (T rfl rfl)) ?_
   refine lw_v (.agg #[.int .u64 (wv3 (fz (zd20 * (2 + zi72)))), .int .u64 (wv2 (fz (zd20 * (2 + zi72)))), .int .u64 (wv1 (fz (zd20 * (2 + zi72)))), .int .u64 (wv0 (fz (zd20 * (2 + zi72))))]) (dv_extract (vs := #[.agg #[.int .u64 (wv3 (fz (zd20 * (2 + zi72)))), .int .u64 (wv2 (fz (zd20 * (2 + zi72)))), .int .u64 (wv1 (fz (zd20 * (2 + zi72)))), .int .u64 (wv0 (fz (zd20 * (2 + zi72))))], .bool (decide (fits (zd20 * (2 + zi72))))]) (T rfl rfl) rfl) ?_
   refine lw_v (.bool (decide (fits (zd20 * (2 + zi72))))) (dv_extract (vs := #[.agg #[.int .u64 (wv3 (fz (zd20 * (2 + zi72)))), .int .u64 (wv2 (fz (zd20 * (2 + zi72)))), .int .u64 (wv1 (fz (zd20 * (2 + zi72)))), .int .u64 (wv0 (fz (zd20 * (2 + zi72))))], .bool (decide (fits (zd20 * (2 + zi72))))]) (T rfl rfl) rfl) ?_
   refine lw_e (oe_alloc ze26 ?_)
   intro b98 w99 n100
   have N101 : w.heap.size ≤ b98 := n100.eq ▸ E97.size
   have H102 := (e96.blk H92)
   have : b84 < b98 := n100.eq ▸ lt_of_blk H102
   have E103 := below_ext E97 E97.size n100.ext
   refine lw_e (oe_store (v := .agg #[.int .u64 (wv3 (fz (zd20 * (2 + zi72)))), .int .u64 (wv2 (fz (zd20 * (2 + zi72)))), .int .u64 (wv1 (fz (zd20 * (2 + zi72)))), .int .u64 (wv0 (fz (zd20 * (2 + zi72))))]) (vs := [.int .u64 (wv3 (fz (zd20 * (2 + zi72)))), .int .u64 (wv2 (fz (zd20 * (2 + zi72)))), .int .u64 (wv1 (fz (zd20 * (2 + zi72)))), .int .u64 (wv0 (fz (zd20 * (2 + zi72))))]) (l := [.int .u64 (wv3 (fz (zd20 * (2 + zi72)))), .int .u64 (wv2 (fz (zd20 * (2 + zi72)))), .int .u64 (wv1 (fz (zd20 * (2 + zi72)))), .int .u64 (wv0 (fz (zd20 * (2 + zi72))))]) (T rfl rfl) (T rfl rfl) sz26 rfl rfl rfl n100.blk rfl ?_)
   intro w104 s105 H106
   have E107 := below_st E103 N101 s105
   refine lw_v (.bool (decide (fits (zd20 * (2 + zi72))))) (dv_assign (T rfl rfl)) ?_
   refine lw_nil ?_
   refine rk_seq ?_
   refine rk_reg ?_
   have H108 := (s105.blk (n100.ext.blk (e96.blk (s91.blk (n86.ext.blk H88) (by omega)))) (by omega))
   refine lw_v (.agg #[.int .u64 (wv3 zd40), .int .u64 (wv2 zd40), .int .u64 (wv1 zd40), .int .u64 (wv0 zd40)]) (dv_loads (l := [.int .u64 (wv3 zd40), .int .u64 (wv2 zd40), .int .u64 (wv1 zd40), .int .u64 (wv0 zd40)]) agt26 sz26 (T rfl rfl) H108 rfl) ?_
   have H109 := (s105.blk (n100.ext.blk H102) (by omega))
   refine lw_v (.agg #[.int .u64 (wv3 (2 + zi72)), .int .u64 (wv2 (2 + zi72)), .int .u64 (wv1 (2 + zi72)), .int .u64 (wv0 (2 + zi72))]) (dv_loads (l := [.int .u64 (wv3 (2 + zi72)), .int .u64 (wv2 (2 + zi72)), .int .u64 (wv1 (2 + zi72)), .int .u64 (wv0 (2 + zi72))]) agt26 sz26 (T rfl rfl) H109 rfl) ?_
   refine lw_e (oe_callf (vs := [.agg #[.int .u64 (wv3 zd40), .int .u64 (wv2 zd40), .int .u64 (wv1 zd40), .int .u64 (wv0 zd40)], .agg #[.int .u64 (wv3 (2 + zi72)), .int .u64 (wv2 (2 + zi72)), .int .u64 (wv1 (2 + zi72)), .int .u64 (wv0 (2 + zi72))]]) co62 (ar2 (T rfl rfl) (T rfl rfl)) (sWideMul_ok (x := zd40) (y := 2 + zi72) hz45 (fits_i (by omega)) ) ?_)
   rintro _ w110 ⟨rfl, e111⟩
   have E112 := below_ext E107 E107.size e111
   refine lw_v (.tuple #[.agg #[.int .u64 (wv3 (fz (zd40 * (2 + zi72)))), .int .u64 (wv2 (fz (zd40 * (2 + zi72)))), .int .u64 (wv1 (fz (zd40 * (2 + zi72)))), .int .u64 (wv0 (fz (zd40 * (2 + zi72))))], .bool (decide (fits (zd40 * (2 + zi72))))]) (dv_move (T rfl rfl)) ?_
   refine lw_v (.agg #[.int .u64 (wv3 (fz (zd40 * (2 + zi72)))), .int .u64 (wv2 (fz (zd40 * (2 + zi72)))), .int .u64 (wv1 (fz (zd40 * (2 + zi72)))), .int .u64 (wv0 (fz (zd40 * (2 + zi72))))]) (dv_extract (vs := #[.agg #[.int .u64 (wv3 (fz (zd40 * (2 + zi72)))), .int .u64 (wv2 (fz (zd40 * (2 + zi72)))), .int .u64 (wv1 (fz (zd40 * (2 + zi72)))), .int .u64 (wv0 (fz (zd40 * (2 + zi72))))], .bool (decide (fits (zd40 * (2 + zi72))))]) (T rfl rfl) rfl) ?_
   refine lw_v (.bool (decide (fits (zd40 * (2 + zi72))))) (dv_extract (vs := #[.agg #[.int .u64 (wv3 (fz (zd40 * (2 + zi72)))), .int .u64 (wv2 (fz (zd40 * (2 + zi72)))), .int .u64 (wv1 (fz (zd40 * (2 + zi72)))), .int .u64 (wv0 (fz (zd40 * (2 + zi72))))], .bool (decide (fits (zd40 * (2 + zi72))))]) (T rfl rfl) rfl) ?_
   refine lw_e (oe_alloc ze26 ?_)
   intro b113 w114 n115
   have N116 : w.heap.size ≤ b113 := n115.eq ▸ E112.size
   have H117 := (e111.blk H106)
   have : b98 < b113 := n115.eq ▸ lt_of_blk H117
   have E118 := below_ext E112 E112.size n115.ext
   refine lw_e (oe_store (v := .agg #[.int .u64 (wv3 (fz (zd40 * (2 + zi72)))), .int .u64 (wv2 (fz (zd40 * (2 + zi72)))), .int .u64 (wv1 (fz (zd40 * (2 + zi72)))), .int .u64 (wv0 (fz (zd40 * (2 + zi72))))]) (vs := [.int .u64 (wv3 (fz (zd40 * (2 + zi72)))), .int .u64 (wv2 (fz (zd40 * (2 + zi72)))), .int .u64 (wv1 (fz (zd40 * (2 + zi72)))), .int .u64 (wv0 (fz (zd40 * (2 + zi72))))]) (l := [.int .u64 (wv3 (fz (zd40 * (2 + zi72)))), .int .u64 (wv2 (fz (zd40 * (2 + zi72)))), .int .u64 (wv1 (fz (zd40 * (2 + zi72)))), .int .u64 (wv0 (fz (zd40 * (2 + zi72))))]) (T rfl rfl) (T rfl rfl) sz26 rfl rfl rfl n115.blk rfl ?_)
   intro w119 s120 H121
   have E122 := below_st E118 N116 s120
   refine lw_v (.bool (decide (fits (zd40 * (2 + zi72))))) (dv_assign (T rfl rfl)) ?_
   refine lw_nil ?_
   refine rk_seq ?_
   refine rk_reg ?_
   refine lw_v (.bool (decide (fits (zd20 * (2 + zi72))))) (dv_move (T rfl rfl)) ?_
   refine lw_v (.bool (decide (fits (zd20 * (2 + zi72))))) (dv_move (T rfl rfl)) ?_
   by_cases hb123 : fits (zd20 * (2 + zi72))
   · refine lw_vy (.bool (decide (fits (zd40 * (2 + zi72))))) (d := 37) rfl rfl (congrArg Value.bool (decide_eq_true hb123)) (dv_move (T rfl rfl)) ?_
     refine lw_v (.bool (decide (fits (zd40 * (2 + zi72))))) (dv_pick_t (T rfl (congrArg Value.bool (decide_eq_true hb123))) (T rfl rfl)) ?_
     refine lw_nil ?_
     by_cases hb124 : fits (zd40 * (2 + zi72))
     · refine rk_ct (T rfl (congrArg Value.bool (decide_eq_true hb124))) ?_
       refine rk_seq ?_
       refine rk_any (fun w => w.heap[b98]? = some (.cells #[.int .u64 (wv3 (fz (zd20 * (2 + zi72)))), .int .u64 (wv2 (fz (zd20 * (2 + zi72)))), .int .u64 (wv1 (fz (zd20 * (2 + zi72)))), .int .u64 (wv0 (fz (zd20 * (2 + zi72))))] 26) ∧ w.heap[b113]? = some (.cells #[.int .u64 (wv3 (fz (zd40 * (2 + zi72)))), .int .u64 (wv2 (fz (zd40 * (2 + zi72)))), .int .u64 (wv1 (fz (zd40 * (2 + zi72)))), .int .u64 (wv0 (fz (zd40 * (2 + zi72))))] 26)) [3] mo ?_
       intro w125 d126
       have E127 := below_ext E122 E122.size d126.ext
       have H128 := (d126.ext.blk (s120.blk (n115.ext.blk H117) (by omega)))
       have H129 := (d126.ext.blk H121)
       refine aw_load 0 (.agg #[.int .u64 (wv3 (fz (zd20 * (2 + zi72)))), .int .u64 (wv2 (fz (zd20 * (2 + zi72)))), .int .u64 (wv1 (fz (zd20 * (2 + zi72)))), .int .u64 (wv0 (fz (zd20 * (2 + zi72))))]) rfl (by kernel_rfl) .none ⟨H128, H129⟩ (fun _ s => dv_loads (l := [.int .u64 (wv3 (fz (zd20 * (2 + zi72)))), .int .u64 (wv2 (fz (zd20 * (2 + zi72)))), .int .u64 (wv1 (fz (zd20 * (2 + zi72)))), .int .u64 (wv0 (fz (zd20 * (2 + zi72))))]) agt26 sz26 (T rfl rfl) s.1 rfl) ?_
       refine aw_load 1 (.agg #[.int .u64 (wv3 (fz (zd40 * (2 + zi72)))), .int .u64 (wv2 (fz (zd40 * (2 + zi72)))), .int .u64 (wv1 (fz (zd40 * (2 + zi72)))), .int .u64 (wv0 (fz (zd40 * (2 + zi72))))]) rfl (by kernel_rfl) .none ⟨H128, H129⟩ (fun _ s => dv_loads (l := [.int .u64 (wv3 (fz (zd40 * (2 + zi72)))), .int .u64 (wv2 (fz (zd40 * (2 + zi72)))), .int .u64 (wv1 (fz (zd40 * (2 + zi72)))), .int .u64 (wv0 (fz (zd40 * (2 + zi72))))]) agt26 sz26 (T rfl rfl) s.2 rfl) ?_
       have H130 := (d126.ext.blk (s120.blk (n115.ext.blk (e111.blk (s105.blk (n100.ext.blk (e96.blk (s91.blk (n86.ext.blk (e82.blk (bx_blk e79 (bx_blk e68 (s56.blk (n51.ext.blk (bx_blk e47 (s35.blk (n31.ext.blk (bx_blk e27 (e15.blk H16) (by omega))) (by omega)) (by omega))) (by omega)) (by omega)) (by omega)))) (by omega)))) (by omega)))) (by omega)))
       refine aw_one 2 rfl (by kernel_rfl) .none (oe_store (v := .agg #[.int .u64 (wv3 (fz (zd20 * (2 + zi72)))), .int .u64 (wv2 (fz (zd20 * (2 + zi72)))), .int .u64 (wv1 (fz (zd20 * (2 + zi72)))), .int .u64 (wv0 (fz (zd20 * (2 + zi72))))]) (vs := [.int .u64 (wv3 (fz (zd20 * (2 + zi72)))), .int .u64 (wv2 (fz (zd20 * (2 + zi72)))), .int .u64 (wv1 (fz (zd20 * (2 + zi72)))), .int .u64 (wv0 (fz (zd20 * (2 + zi72))))]) (l := [.int .u64 (wv3 (fz (zd20 * (2 + zi72)))), .int .u64 (wv2 (fz (zd20 * (2 + zi72)))), .int .u64 (wv1 (fz (zd20 * (2 + zi72)))), .int .u64 (wv0 (fz (zd20 * (2 + zi72))))]) (T rfl rfl) (T rfl rfl) sz26 rfl rfl rfl H130 rfl ?_)
       intro w131 s132 H133
       have E134 := below_st E127 N4 s132
       have H135 := (s132.blk H128 (by omega))
       have H136 := (s132.blk H129 (by omega))
       refine ⟨.inr ⟨H135, H136⟩, ?_⟩
       have H137 := (s132.blk (d126.ext.blk (s120.blk (n115.ext.blk (e111.blk (s105.blk (n100.ext.blk (e96.blk (s91.blk (n86.ext.blk (e82.blk (bx_blk e79 (bx_blk e68 (s56.blk (n51.ext.blk (bx_blk e47 (s35.blk (n31.ext.blk (bx_blk e27 (e15.blk n8.blk) (by omega))) (by omega)) (by omega))) (by omega)) (by omega)) (by omega)))) (by omega)))) (by omega)))) (by omega))) (by omega))
       refine aw_one 3 rfl (by kernel_rfl) .none (oe_store (v := .agg #[.int .u64 (wv3 (fz (zd40 * (2 + zi72)))), .int .u64 (wv2 (fz (zd40 * (2 + zi72)))), .int .u64 (wv1 (fz (zd40 * (2 + zi72)))), .int .u64 (wv0 (fz (zd40 * (2 + zi72))))]) (vs := [.int .u64 (wv3 (fz (zd40 * (2 + zi72)))), .int .u64 (wv2 (fz (zd40 * (2 + zi72)))), .int .u64 (wv1 (fz (zd40 * (2 + zi72)))), .int .u64 (wv0 (fz (zd40 * (2 + zi72))))]) (l := [.int .u64 (wv3 (fz (zd40 * (2 + zi72)))), .int .u64 (wv2 (fz (zd40 * (2 + zi72)))), .int .u64 (wv1 (fz (zd40 * (2 + zi72)))), .int .u64 (wv0 (fz (zd40 * (2 + zi72))))]) (T rfl rfl) (T rfl rfl) sz26 rfl rfl rfl H137 rfl ?_)
       intro w138 s139 H140
       have E141 := below_st E134 N9 s139
       refine ⟨.inl rfl, ?_⟩
       refine aw_done (by kernel_rfl) ?_
       have H142 := (s139.blk H133 (by omega))
       refine rk_ret Try.func26 (v := .tuple #[.agg #[.int .u64 (wv3 (fz (zd20 * (2 + zi72)))), .int .u64 (wv2 (fz (zd20 * (2 + zi72)))), .int .u64 (wv1 (fz (zd20 * (2 + zi72)))), .int .u64 (wv0 (fz (zd20 * (2 + zi72))))], .agg #[.int .u64 (wv3 (fz (zd40 * (2 + zi72)))), .int .u64 (wv2 (fz (zd40 * (2 + zi72)))), .int .u64 (wv1 (fz (zd40 * (2 + zi72)))), .int .u64 (wv0 (fz (zd40 * (2 + zi72))))]]) (res2 Try.results26 (rv_cells (l := [.int .u64 (wv3 (fz (zd20 * (2 + zi72)))), .int .u64 (wv2 (fz (zd20 * (2 + zi72)))), .int .u64 (wv1 (fz (zd20 * (2 + zi72)))), .int .u64 (wv0 (fz (zd20 * (2 + zi72))))]) agt26 sz26 rfl rfl H142 rfl) (rv_cells (l := [.int .u64 (wv3 (fz (zd40 * (2 + zi72)))), .int .u64 (wv2 (fz (zd40 * (2 + zi72)))), .int .u64 (wv1 (fz (zd40 * (2 + zi72)))), .int .u64 (wv0 (fz (zd40 * (2 + zi72))))]) agt26 sz26 rfl rfl H140 rfl)) ⟨_, rfl, ?_⟩
       exact ⟨fz (zd20 * (2 + zi72)), fz (zd40 * (2 + zi72)), (tu2 (ag4 rfl rfl rfl rfl) (ag4 rfl rfl rfl rfl)), E141, (fz_f _), (fz_f _)⟩
     · refine rk_cf (T rfl (congrArg Value.bool (decide_eq_false hb124))) ?_
       refine rk_skip ?_
       refine rk_seq ?_
       refine rk_any (fun w => w.heap[b29]? = some (.cells #[.int .u64 (wv3 zd20), .int .u64 (wv2 zd20), .int .u64 (wv1 zd20), .int .u64 (wv0 zd20)] 26) ∧ w.heap[b49]? = some (.cells #[.int .u64 (wv3 zd40), .int .u64 (wv2 zd40), .int .u64 (wv1 zd40), .int .u64 (wv0 zd40)] 26)) [3] mo ?_
       intro w143 d144
       have E145 := below_ext E122 E122.size d144.ext
       have H146 := (d144.ext.blk (s120.blk (n115.ext.blk (e111.blk (s105.blk (n100.ext.blk (e96.blk H94)) (by omega)))) (by omega)))
       have H147 := (d144.ext.blk (s120.blk (n115.ext.blk (e111.blk H108)) (by omega)))
       refine aw_load 0 (.agg #[.int .u64 (wv3 zd20), .int .u64 (wv2 zd20), .int .u64 (wv1 zd20), .int .u64 (wv0 zd20)]) rfl (by kernel_rfl) .none ⟨H146, H147⟩ (fun _ s => dv_loads (l := [.int .u64 (wv3 zd20), .int .u64 (wv2 zd20), .int .u64 (wv1 zd20), .int .u64 (wv0 zd20)]) agt26 sz26 (T rfl rfl) s.1 rfl) ?_
       refine aw_load 1 (.agg #[.int .u64 (wv3 zd40), .int .u64 (wv2 zd40), .int .u64 (wv1 zd40), .int .u64 (wv0 zd40)]) rfl (by kernel_rfl) .none ⟨H146, H147⟩ (fun _ s => dv_loads (l := [.int .u64 (wv3 zd40), .int .u64 (wv2 zd40), .int .u64 (wv1 zd40), .int .u64 (wv0 zd40)]) agt26 sz26 (T rfl rfl) s.2 rfl) ?_
       have H148 := (d144.ext.blk (s120.blk (n115.ext.blk (e111.blk (s105.blk (n100.ext.blk (e96.blk (s91.blk (n86.ext.blk (e82.blk (bx_blk e79 (bx_blk e68 (s56.blk (n51.ext.blk (bx_blk e47 (s35.blk (n31.ext.blk (bx_blk e27 (e15.blk H16) (by omega))) (by omega)) (by omega))) (by omega)) (by omega)) (by omega)))) (by omega)))) (by omega)))) (by omega)))
       refine aw_one 2 rfl (by kernel_rfl) .none (oe_store (v := .agg #[.int .u64 (wv3 zd20), .int .u64 (wv2 zd20), .int .u64 (wv1 zd20), .int .u64 (wv0 zd20)]) (vs := [.int .u64 (wv3 zd20), .int .u64 (wv2 zd20), .int .u64 (wv1 zd20), .int .u64 (wv0 zd20)]) (l := [.int .u64 (wv3 zd20), .int .u64 (wv2 zd20), .int .u64 (wv1 zd20), .int .u64 (wv0 zd20)]) (T rfl rfl) (T rfl rfl) sz26 rfl rfl rfl H148 rfl ?_)
       intro w149 s150 H151
       have E152 := below_st E145 N4 s150
       have H153 := (s150.blk H146 (by omega))
       have H154 := (s150.blk H147 (by omega))
       refine ⟨.inr ⟨H153, H154⟩, ?_⟩
       have H155 := (s150.blk (d144.ext.blk (s120.blk (n115.ext.blk (e111.blk (s105.blk (n100.ext.blk (e96.blk (s91.blk (n86.ext.blk (e82.blk (bx_blk e79 (bx_blk e68 (s56.blk (n51.ext.blk (bx_blk e47 (s35.blk (n31.ext.blk (bx_blk e27 (e15.blk n8.blk) (by omega))) (by omega)) (by omega))) (by omega)) (by omega)) (by omega)))) (by omega)))) (by omega)))) (by omega))) (by omega))
       refine aw_one 3 rfl (by kernel_rfl) .none (oe_store (v := .agg #[.int .u64 (wv3 zd40), .int .u64 (wv2 zd40), .int .u64 (wv1 zd40), .int .u64 (wv0 zd40)]) (vs := [.int .u64 (wv3 zd40), .int .u64 (wv2 zd40), .int .u64 (wv1 zd40), .int .u64 (wv0 zd40)]) (l := [.int .u64 (wv3 zd40), .int .u64 (wv2 zd40), .int .u64 (wv1 zd40), .int .u64 (wv0 zd40)]) (T rfl rfl) (T rfl rfl) sz26 rfl rfl rfl H155 rfl ?_)
       intro w156 s157 H158
       have E159 := below_st E152 N9 s157
       refine ⟨.inl rfl, ?_⟩
       refine aw_done (by kernel_rfl) ?_
       have H160 := (s157.blk H151 (by omega))
       refine rk_ret Try.func26 (v := .tuple #[.agg #[.int .u64 (wv3 zd20), .int .u64 (wv2 zd20), .int .u64 (wv1 zd20), .int .u64 (wv0 zd20)], .agg #[.int .u64 (wv3 zd40), .int .u64 (wv2 zd40), .int .u64 (wv1 zd40), .int .u64 (wv0 zd40)]]) (res2 Try.results26 (rv_cells (l := [.int .u64 (wv3 zd20), .int .u64 (wv2 zd20), .int .u64 (wv1 zd20), .int .u64 (wv0 zd20)]) agt26 sz26 rfl rfl H160 rfl) (rv_cells (l := [.int .u64 (wv3 zd40), .int .u64 (wv2 zd40), .int .u64 (wv1 zd40), .int .u64 (wv0 zd40)]) agt26 sz26 rfl rfl H158 rfl)) ⟨_, rfl, ?_⟩
       exact ⟨zd20, zd40, (tu2 (ag4 rfl rfl rfl rfl) (ag4 rfl rfl rfl rfl)), E159, hz25, hz45⟩
   · refine lw_no (d := 37) rfl rfl (congrArg Value.bool (decide_eq_false hb123)) ?_
     refine lw_v (.bool false) (dv_pick_f (T rfl (congrArg Value.bool (decide_eq_false hb123))) C) ?_
     refine lw_nil ?_
     refine rk_cf (T rfl rfl) ?_
     refine rk_skip ?_
     refine rk_seq ?_
     refine rk_any (fun w => w.heap[b29]? = some (.cells #[.int .u64 (wv3 zd20), .int .u64 (wv2 zd20), .int .u64 (wv1 zd20), .int .u64 (wv0 zd20)] 26) ∧ w.heap[b49]? = some (.cells #[.int .u64 (wv3 zd40), .int .u64 (wv2 zd40), .int .u64 (wv1 zd40), .int .u64 (wv0 zd40)] 26)) [3] mo ?_
     intro w161 d162
     have E163 := below_ext E122 E122.size d162.ext
     have H164 := (d162.ext.blk (s120.blk (n115.ext.blk (e111.blk (s105.blk (n100.ext.blk (e96.blk H94)) (by omega)))) (by omega)))
     have H165 := (d162.ext.blk (s120.blk (n115.ext.blk (e111.blk H108)) (by omega)))
     refine aw_load 0 (.agg #[.int .u64 (wv3 zd20), .int .u64 (wv2 zd20), .int .u64 (wv1 zd20), .int .u64 (wv0 zd20)]) rfl (by kernel_rfl) .none ⟨H164, H165⟩ (fun _ s => dv_loads (l := [.int .u64 (wv3 zd20), .int .u64 (wv2 zd20), .int .u64 (wv1 zd20), .int .u64 (wv0 zd20)]) agt26 sz26 (T rfl rfl) s.1 rfl) ?_
     refine aw_load 1 (.agg #[.int .u64 (wv3 zd40), .int .u64 (wv2 zd40), .int .u64 (wv1 zd40), .int .u64 (wv0 zd40)]) rfl (by kernel_rfl) .none ⟨H164, H165⟩ (fun _ s => dv_loads (l := [.int .u64 (wv3 zd40), .int .u64 (wv2 zd40), .int .u64 (wv1 zd40), .int .u64 (wv0 zd40)]) agt26 sz26 (T rfl rfl) s.2 rfl) ?_
     have H166 := (d162.ext.blk (s120.blk (n115.ext.blk (e111.blk (s105.blk (n100.ext.blk (e96.blk (s91.blk (n86.ext.blk (e82.blk (bx_blk e79 (bx_blk e68 (s56.blk (n51.ext.blk (bx_blk e47 (s35.blk (n31.ext.blk (bx_blk e27 (e15.blk H16) (by omega))) (by omega)) (by omega))) (by omega)) (by omega)) (by omega)))) (by omega)))) (by omega)))) (by omega)))
     refine aw_one 2 rfl (by kernel_rfl) .none (oe_store (v := .agg #[.int .u64 (wv3 zd20), .int .u64 (wv2 zd20), .int .u64 (wv1 zd20), .int .u64 (wv0 zd20)]) (vs := [.int .u64 (wv3 zd20), .int .u64 (wv2 zd20), .int .u64 (wv1 zd20), .int .u64 (wv0 zd20)]) (l := [.int .u64 (wv3 zd20), .int .u64 (wv2 zd20), .int .u64 (wv1 zd20), .int .u64 (wv0 zd20)]) (T rfl rfl) (T rfl rfl) sz26 rfl rfl rfl H166 rfl ?_)
     intro w167 s168 H169
     have E170 := below_st E163 N4 s168
     have H171 := (s168.blk H164 (by omega))
     have H172 := (s168.blk H165 (by omega))
     refine ⟨.inr ⟨H171, H172⟩, ?_⟩
     have H173 := (s168.blk (d162.ext.blk (s120.blk (n115.ext.blk (e111.blk (s105.blk (n100.ext.blk (e96.blk (s91.blk (n86.ext.blk (e82.blk (bx_blk e79 (bx_blk e68 (s56.blk (n51.ext.blk (bx_blk e47 (s35.blk (n31.ext.blk (bx_blk e27 (e15.blk n8.blk) (by omega))) (by omega)) (by omega))) (by omega)) (by omega)) (by omega)))) (by omega)))) (by omega)))) (by omega))) (by omega))
     refine aw_one 3 rfl (by kernel_rfl) .none (oe_store (v := .agg #[.int .u64 (wv3 zd40), .int .u64 (wv2 zd40), .int .u64 (wv1 zd40), .int .u64 (wv0 zd40)]) (vs := [.int .u64 (wv3 zd40), .int .u64 (wv2 zd40), .int .u64 (wv1 zd40), .int .u64 (wv0 zd40)]) (l := [.int .u64 (wv3 zd40), .int .u64 (wv2 zd40), .int .u64 (wv1 zd40), .int .u64 (wv0 zd40)]) (T rfl rfl) (T rfl rfl) sz26 rfl rfl rfl H173 rfl ?_)
     intro w174 s175 H176
     have E177 := below_st E170 N9 s175
     refine ⟨.inl rfl, ?_⟩
     refine aw_done (by kernel_rfl) ?_
     have H178 := (s175.blk H169 (by omega))
     refine rk_ret Try.func26 (v := .tuple #[.agg #[.int .u64 (wv3 zd20), .int .u64 (wv2 zd20), .int .u64 (wv1 zd20), .int .u64 (wv0 zd20)], .agg #[.int .u64 (wv3 zd40), .int .u64 (wv2 zd40), .int .u64 (wv1 zd40), .int .u64 (wv0 zd40)]]) (res2 Try.results26 (rv_cells (l := [.int .u64 (wv3 zd20), .int .u64 (wv2 zd20), .int .u64 (wv1 zd20), .int .u64 (wv0 zd20)]) agt26 sz26 rfl rfl H178 rfl) (rv_cells (l := [.int .u64 (wv3 zd40), .int .u64 (wv2 zd40), .int .u64 (wv1 zd40), .int .u64 (wv0 zd40)]) agt26 sz26 rfl rfl H176 rfl)) ⟨_, rfl, ?_⟩
     exact ⟨zd20, zd40, (tu2 (ag4 rfl rfl rfl rfl) (ag4 rfl rfl rfl rfl)), E177, hz25, hz45⟩
 · refine rk_cf (T rfl (congrArg Value.bool hb70)) ?_
   refine rk_skip ?_
   refine rk_seq ?_
   refine rk_any (fun w => w.heap[b29]? = some (.cells #[.int .u64 (wv3 zd20), .int .u64 (wv2 zd20), .int .u64 (wv1 zd20), .int .u64 (wv0 zd20)] 26) ∧ w.heap[b49]? = some (.cells #[.int .u64 (wv3 zd40), .int .u64 (wv2 zd40), .int .u64 (wv1 zd40), .int .u64 (wv0 zd40)] 26)) [3] mo ?_
   intro w179 d180
   have E181 := below_ext E69 E69.size d180.ext
   have H182 := (d180.ext.blk (bx_blk e68 (s56.blk (n51.ext.blk H53) (by omega)) (by omega)))
   have H183 := (d180.ext.blk (bx_blk e68 H57 (by omega)))
   refine aw_load 0 (.agg #[.int .u64 (wv3 zd20), .int .u64 (wv2 zd20), .int .u64 (wv1 zd20), .int .u64 (wv0 zd20)]) rfl (by kernel_rfl) .none ⟨H182, H183⟩ (fun _ s => dv_loads (l := [.int .u64 (wv3 zd20), .int .u64 (wv2 zd20), .int .u64 (wv1 zd20), .int .u64 (wv0 zd20)]) agt26 sz26 (T rfl rfl) s.1 rfl) ?_
   refine aw_load 1 (.agg #[.int .u64 (wv3 zd40), .int .u64 (wv2 zd40), .int .u64 (wv1 zd40), .int .u64 (wv0 zd40)]) rfl (by kernel_rfl) .none ⟨H182, H183⟩ (fun _ s => dv_loads (l := [.int .u64 (wv3 zd40), .int .u64 (wv2 zd40), .int .u64 (wv1 zd40), .int .u64 (wv0 zd40)]) agt26 sz26 (T rfl rfl) s.2 rfl) ?_
   have H184 := (d180.ext.blk (bx_blk e68 (s56.blk (n51.ext.blk (bx_blk e47 (s35.blk (n31.ext.blk (bx_blk e27 (e15.blk H16) (by omega))) (by omega)) (by omega))) (by omega)) (by omega)))
   refine aw_one 2 rfl (by kernel_rfl) .none (oe_store (v := .agg #[.int .u64 (wv3 zd20), .int .u64 (wv2 zd20), .int .u64 (wv1 zd20), .int .u64 (wv0 zd20)]) (vs := [.int .u64 (wv3 zd20), .int .u64 (wv2 zd20), .int .u64 (wv1 zd20), .int .u64 (wv0 zd20)]) (l := [.int .u64 (wv3 zd20), .int .u64 (wv2 zd20), .int .u64 (wv1 zd20), .int .u64 (wv0 zd20)]) (T rfl rfl) (T rfl rfl) sz26 rfl rfl rfl H184 rfl ?_)
   intro w185 s186 H187
   have E188 := below_st E181 N4 s186
   have H189 := (s186.blk H182 (by omega))
   have H190 := (s186.blk H183 (by omega))
   refine ⟨.inr ⟨H189, H190⟩, ?_⟩
   have H191 := (s186.blk (d180.ext.blk (bx_blk e68 (s56.blk (n51.ext.blk (bx_blk e47 (s35.blk (n31.ext.blk (bx_blk e27 (e15.blk n8.blk) (by omega))) (by omega)) (by omega))) (by omega)) (by omega))) (by omega))
   refine aw_one 3 rfl (by kernel_rfl) .none (oe_store (v := .agg #[.int .u64 (wv3 zd40), .int .u64 (wv2 zd40), .int .u64 (wv1 zd40), .int .u64 (wv0 zd40)]) (vs := [.int .u64 (wv3 zd40), .int .u64 (wv2 zd40), .int .u64 (wv1 zd40), .int .u64 (wv0 zd40)]) (l := [.int .u64 (wv3 zd40), .int .u64 (wv2 zd40), .int .u64 (wv1 zd40), .int .u64 (wv0 zd40)]) (T rfl rfl) (T rfl rfl) sz26 rfl rfl rfl H191 rfl ?_)
   intro w192 s193 H194
   have E195 := below_st E188 N9 s193
   refine ⟨.inl rfl, ?_⟩
   refine aw_done (by kernel_rfl) ?_
   have H196 := (s193.blk H187 (by omega))
   refine rk_ret Try.func26 (v := .tuple #[.agg #[.int .u64 (wv3 zd20), .int .u64 (wv2 zd20), .int .u64 (wv1 zd20), .int .u64 (wv0 zd20)], .agg #[.int .u64 (wv3 zd40), .int .u64 (wv2 zd40), .int .u64 (wv1 zd40), .int .u64 (wv0 zd40)]]) (res2 Try.results26 (rv_cells (l := [.int .u64 (wv3 zd20), .int .u64 (wv2 zd20), .int .u64 (wv1 zd20), .int .u64 (wv0 zd20)]) agt26 sz26 rfl rfl H196 rfl) (rv_cells (l := [.int .u64 (wv3 zd40), .int .u64 (wv2 zd40), .int .u64 (wv1 zd40), .int .u64 (wv0 zd40)]) agt26 sz26 rfl rfl H194 rfl)) ⟨_, rfl, ?_⟩
   exact ⟨zd20, zd40, (tu2 (ag4 rfl rfl rfl rfl) (ag4 rfl rfl rfl rfl)), E195, hz25, hz45⟩
end Go.Proofs.Ytfmkadgjoechnaa.W
