/- Walks and plain mathematics, packed by a program of this session: declarations that the rows reach. -/
import Derived.Test.YtmbpomcbdopgnaaPvl
set_option linter.unusedVariables false
set_option linter.unusedSimpArgs false
namespace Go.Proofs.Ytmbpomcbdopgnaa.W
open Go Go.RowKit Go.Proofs.Ytmbpomcbdopgnaa.Fw
attribute [local irreducible] RunK LW AW DV OE Ct
theorem co110 : callOk Try.prog 110 = true := by kernel_rfl
theorem co138 : callOk Try.prog 138 = true := by kernel_rfl
theorem co50 : callOk Try.prog 50 = true := by kernel_rfl
theorem co61 : callOk Try.prog 61 = true := by kernel_rfl
theorem co63 : callOk Try.prog 63 = true := by kernel_rfl
theorem co64 : callOk Try.prog 64 = true := by kernel_rfl
theorem in2 : (Try.prog.info? 2).map (fun i => (i.zero, i.size, i.bytes)) = some (some (.int .i64 0), 1, 8) := by kernel_rfl
theorem zc2 : zcB Try.prog 2 = some [.int .i64 0] := by kernel_rfl
set_option maxHeartbeats 4000000 in
theorem l7At_ok {w : World} {ax ay bx b_y : Int} {na : Bool} {Aa : Option Addr} {la ca : Nat} {x : Int} (ha : Num 32 168 .u32 w na Aa la ca x 256) {nb : Bool} {Ab : Option Addr} {lb cb : Nat} {y : Int} (hb : Num 32 168 .u32 w nb Ab lb cb y 256) {nm : Bool} {Am : Option Addr} {lm cm : Nat} {u : Int} (hm : Num 32 168 .u32 w nm Am lm cm u 256) (hg : (-1000000 ≤ ax ∧ ax ≤ 1000000) ∧ (-1000000 ≤ ay ∧ ay ≤ 1000000) ∧ (-1000000 ≤ bx ∧ bx ≤ 1000000) ∧ (-1000000 ≤ b_y ∧ b_y ≤ 1000000)) (hu0 : 0 < u) (hd0 : ax < bx) : Ct Try.prog 110 [.agg #[.int .i64 ax, .int .i64 ay, .int .i64 bx, .int .i64 b_y], .agg #[.bool na, .slice Aa la ca, .bool nb, .slice Ab lb cb, .bool nm, .slice Am lm cm]] w fun v w1 => ∃ n0 A0 l0 c0 n1 A1 l1 c1 n2 A2 l2 c2, v = .agg #[.bool n0, .slice A0 l0 c0, .bool n1, .slice A1 l1 c1, .bool n2, .slice A2 l2 c2] ∧ Ext w w1 ∧ Num 32 168 .u32 w1 n0 A0 l0 c0 (pPt (x * (bx - ax)) (hS ax ay bx b_y x u) (u * (bx - ax)) (x * (bx - ax))) 1000 ∧ Num 32 168 .u32 w1 n1 A1 l1 c1 (pPt (x * (bx - ax)) (hS ax ay bx b_y x u) (u * (bx - ax)) (hS ax ay bx b_y x u)) 1000 ∧ Num 32 168 .u32 w1 n2 A2 l2 c2 (pPt (x * (bx - ax)) (hS ax ay bx b_y x u) (u * (bx - ax)) (u * (bx - ax))) 1000 := by
 refine ct_run (n := 56) Try.func110 rfl Try.ntmps110 rfl ?_
 have E0 : Below w.heap.size w w := Below.refl _ _
 have lha := ql ha
 have lhb := ql hb
 have lhm := ql hm
 refine rk_seq <| rk_reg <| lw_e (oe_box (v := .agg #[qi ax, qi ay, qi bx, qi b_y]) (cs := #[qi ax, qi ay, qi bx, qi b_y]) (Z rfl) rfl ?_)
 intro b1 w2 n3
 have N4 : w.heap.size ≤ b1 := n3.eq ▸ E0.size
 have E5 := qe E0 n3.ext
 refine lw_e (oe_box (v := .agg #[.bool na, .slice Aa la ca, .bool nb, .slice Ab lb cb, .bool nm, .slice Am lm cm]) (cs := #[.bool na, .slice Aa la ca, .bool nb, .slice Ab lb cb, .bool nm, .slice Am lm cm]) (Z rfl) rfl ?_)
 intro b6 w7 n8
 have N9 : w.heap.size ≤ b6 := n8.eq ▸ E5.size
 have : b1 < b6 := n8.eq ▸ lt_of_blk n3.blk
 have E10 := qe E5 n8.ext
 refine lw_e (oe_alloc ze90 ?_)
 intro b11 w12 n13
 have N14 : w.heap.size ≤ b11 := n13.eq ▸ E10.size
 have : b6 < b11 := n13.eq ▸ lt_of_blk n8.blk
 have E15 := qe E10 n13.ext
 refine qN <| lw_v (.pointer (some ⟨b1, 2, none⟩)) (dv_fieldAddr (a := ⟨b1, 0, none⟩) (a' := ⟨b1, 2, none⟩) fo27_1 (Z rfl) rfl) <| lw_v (.pointer (some ⟨b1, 2, none⟩)) (dv_fieldAddr (a := ⟨b1, 2, none⟩) (a' := ⟨b1, 2, none⟩) fo25_0 (Z rfl) rfl) ?_
 have H16 := (n13.ext.blk (n8.ext.blk n3.blk))
 refine lw_v (qi bx) (dv_load1 (b := b1) (o := 2) agt2 (Z rfl) H16 rfl) <| lw_v (.pointer (some ⟨b1, 0, none⟩)) (dv_fieldAddr (a := ⟨b1, 0, none⟩) (a' := ⟨b1, 0, none⟩) fo27_0 (Z rfl) rfl) <| lw_v (.pointer (some ⟨b1, 0, none⟩)) (dv_fieldAddr (a := ⟨b1, 0, none⟩) (a' := ⟨b1, 0, none⟩) fo25_0 (Z rfl) rfl) <| lw_v (qi ax) (dv_load1 (b := b1) (o := 0) agt2 (Z rfl) H16 rfl) <| lw_v _ (dv_sub (a := bx) (b := ax) (z := bx - ax) (Z rfl) (Z rfl) (wr_i64 (by omega) (by omega))) <| lw_e (oe_callf (vs := [qi (bx - ax)]) co99 (ar1 (Z rfl)) (l1Int_ok  (by omega)) ?_)
 rintro _ w22 ⟨nr17, A18, n19, c20, rfl, e23, h21⟩
 have E24 := qe E15 e23
 have lh21 := ql h21
 refine lw_e (oe_alloc ze88 ?_)
 intro b25 w26 n27
 have N28 : w.heap.size ≤ b25 := n27.eq ▸ E24.size
 have H29 := (e23.blk n13.blk)
 have : b11 < b25 := n27.eq ▸ lt_of_blk H29
 have E30 := qe E24 n27.ext
 refine lw_e (oe_store (v := .agg #[.bool nr17, .slice A18 n19 c20]) (vs := [.bool nr17, .slice A18 n19 c20]) (l := [.bool nr17, .slice A18 n19 c20]) (Z rfl) (Z rfl) sz88 rfl rfl rfl n27.blk rfl ?_)
 intro w31 s32 H33
 have E34 := below_st E30 N28 s32
 refine qN <| lw_v (.pointer (some ⟨b1, 2, none⟩)) (dv_fieldAddr (a := ⟨b1, 0, none⟩) (a' := ⟨b1, 2, none⟩) fo27_1 (Z rfl) rfl) <| lw_v (.pointer (some ⟨b1, 3, none⟩)) (dv_fieldAddr (a := ⟨b1, 2, none⟩) (a' := ⟨b1, 3, none⟩) fo25_1 (Z rfl) rfl) ?_
 have H35 := (s32.blk (n27.ext.blk (e23.blk H16)) (by omega))
 refine lw_v (qi b_y) (dv_load1 (b := b1) (o := 3) agt2 (Z rfl) H35 rfl) <| lw_v (.pointer (some ⟨b1, 0, none⟩)) (dv_fieldAddr (a := ⟨b1, 0, none⟩) (a' := ⟨b1, 0, none⟩) fo27_0 (Z rfl) rfl) <| lw_v (.pointer (some ⟨b1, 1, none⟩)) (dv_fieldAddr (a := ⟨b1, 0, none⟩) (a' := ⟨b1, 1, none⟩) fo25_1 (Z rfl) rfl) <| lw_v (qi ay) (dv_load1 (b := b1) (o := 1) agt2 (Z rfl) H35 rfl) <| lw_v _ (dv_sub (a := b_y) (b := ay) (z := b_y - ay) (Z rfl) (Z rfl) (wr_i64 (by omega) (by omega))) <| lw_e (oe_callf (vs := [qi (b_y - ay)]) co99 (ar1 (Z rfl)) (l1Int_ok  (by omega)) ?_)
 rintro _ w41 ⟨nr36, A37, n38, c39, rfl, e42, h40⟩
 have E43 := qe E34 e42
 have lh40 := ql h40
 refine lw_e (oe_alloc ze88 ?_)
 intro b44 w45 n46
 have N47 : w.heap.size ≤ b44 := n46.eq ▸ E43.size
 have H48 := (e42.blk H33)
 have : b25 < b44 := n46.eq ▸ lt_of_blk H48
 have E49 := qe E43 n46.ext
 refine lw_e (oe_store (v := .agg #[.bool nr36, .slice A37 n38 c39]) (vs := [.bool nr36, .slice A37 n38 c39]) (l := [.bool nr36, .slice A37 n38 c39]) (Z rfl) (Z rfl) sz88 rfl rfl rfl n46.blk rfl ?_)
 intro w50 s51 H52
 have E53 := below_st E49 N47 s51
 refine lw_nil <| rk_seq ?_
 have H54 := (s51.blk (n46.ext.blk (e42.blk H35)) (by omega))
 have : b1 < w50.heap.size := lt_of_blk H54
 have H55 := (s51.blk (n46.ext.blk (e42.blk (s32.blk (n27.ext.blk (e23.blk (n13.ext.blk n8.blk))) (by omega)))) (by omega))
 have : b6 < w50.heap.size := lt_of_blk H55
 have H56 := (s51.blk (n46.ext.blk (e42.blk (s32.blk (n27.ext.blk H29) (by omega)))) (by omega))
 have : b11 < w50.heap.size := lt_of_blk H56
 have H57 := (s51.blk (n46.ext.blk H48) (by omega))
 have : b25 < w50.heap.size := lt_of_blk H57
 have : b44 < w50.heap.size := lt_of_blk H52
 have : w.heap.size ≤ w50.heap.size := E53.size
 refine rk_par2 [fun vq wq_ => vq = .pointer (some ⟨b1, 0, none⟩), fun vq wq_ => vq = .pointer (some ⟨b1, 1, none⟩), fun vq wq_ => vq = qi ay, fun vq wq_ => ∃ (nr86 : Bool) (A87 : Option Addr) (n88 : Nat) (c89 : Nat), vq = .agg #[.bool nr86, .slice A87 n88 c89] ∧ Num 32 168 .u32 wq_ nr86 A87 n88 c89 ay 64, fun vq wq_ => vq = .agg #[.bool nr17, .slice A18 n19 c20], fun vq wq_ => ∃ (nr115 : Bool) (A116 : Option Addr) (n117 : Nat) (c118 : Nat), vq = .agg #[.bool nr115, .slice A116 n117 c118] ∧ Num 32 168 .u32 wq_ nr115 A116 n117 c118 (ay * (bx - ax)) 128, fun vq wq_ => vq = .pointer (some ⟨b6, 4, none⟩), fun vq wq_ => vq = .agg #[.bool nm, .slice Am lm cm], fun vq wq_ => ∃ (nr151 : Bool) (A152 : Option Addr) (n153 : Nat) (c154 : Nat), vq = .agg #[.bool nr151, .slice A152 n153 c154] ∧ Num 32 168 .u32 wq_ nr151 A152 n153 c154 ((ay * (bx - ax)) * u) 384, fun vq wq_ => vq = .agg #[.bool nr36, .slice A37 n38 c39], fun vq wq_ => vq = .pointer (some ⟨b6, 0, none⟩), fun vq wq_ => vq = .agg #[.bool na, .slice Aa la ca], fun vq wq_ => vq = .pointer (some ⟨b1, 0, none⟩), fun vq wq_ => vq = .pointer (some ⟨b1, 0, none⟩), fun vq wq_ => vq = qi ax, fun vq wq_ => ∃ (nr208 : Bool) (A209 : Option Addr) (n210 : Nat) (c211 : Nat), vq = .agg #[.bool nr208, .slice A209 n210 c211] ∧ Num 32 168 .u32 wq_ nr208 A209 n210 c211 ax 64, fun vq wq_ => vq = .pointer (some ⟨b6, 4, none⟩), fun vq wq_ => vq = .agg #[.bool nm, .slice Am lm cm], fun vq wq_ => ∃ (nr244 : Bool) (A245 : Option Addr) (n246 : Nat) (c247 : Nat), vq = .agg #[.bool nr244, .slice A245 n246 c247] ∧ Num 32 168 .u32 wq_ nr244 A245 n246 c247 (ax * u) 320, fun vq wq_ => ∃ (nr266 : Bool) (A267 : Option Addr) (n268 : Nat) (c269 : Nat), vq = .agg #[.bool nr266, .slice A267 n268 c269] ∧ Num 32 168 .u32 wq_ nr266 A267 n268 c269 (x - (ax * u)) 321, fun vq wq_ => ∃ (nr288 : Bool) (A289 : Option Addr) (n290 : Nat) (c291 : Nat), vq = .agg #[.bool nr288, .slice A289 n290 c291] ∧ Num 32 168 .u32 wq_ nr288 A289 n290 c291 ((b_y - ay) * (x - (ax * u))) 385, fun vq wq_ => ∃ (nr314 : Bool) (A315 : Option Addr) (n316 : Nat) (c317 : Nat), vq = .agg #[.bool nr314, .slice A315 n316 c317] ∧ Num 32 168 .u32 wq_ nr314 A315 n316 c317 (((ay * (bx - ax)) * u) + ((b_y - ay) * (x - (ax * u)))) 386, fun _ _ => True, fun _ _ => True] [⟨22, 23, 21, 88, #[.bool false, .slice none 0 0]⟩] [88] mo (by kernel_rfl) (by kernel_rfl) ?_ ?_ ?_ ?_ ?_
 · intro e he e2 he2 h; simp only [List.mem_cons, List.not_mem_nil, or_false] at he he2; rcases he with rfl <;> rcases he2 with rfl <;> first | rfl | exact absurd h (by decide)
 · exact ⟨⟨fun v w w2 e h => h, fun v w w2 b cs T fz s hb hT h => h⟩, ⟨fun v w w2 e h => h, fun v w w2 b cs T fz s hb hT h => h⟩, ⟨fun v w w2 e h => h, fun v w w2 b cs T fz s hb hT h => h⟩, ⟨fun v w w2 e ⟨nr86, A87, n88, c89, hv, h0_⟩ => ⟨nr86, A87, n88, c89, hv, h0_.ext e⟩, fun v w w2 b cs T fz s hb hT ⟨nr86, A87, n88, c89, hv, h0_⟩ => ⟨nr86, A87, n88, c89, hv, h0_.st s hb (ts_ne hT (by decide))⟩⟩, ⟨fun v w w2 e h => h, fun v w w2 b cs T fz s hb hT h => h⟩, ⟨fun v w w2 e ⟨nr115, A116, n117, c118, hv, h0_⟩ => ⟨nr115, A116, n117, c118, hv, h0_.ext e⟩, fun v w w2 b cs T fz s hb hT ⟨nr115, A116, n117, c118, hv, h0_⟩ => ⟨nr115, A116, n117, c118, hv, h0_.st s hb (ts_ne hT (by decide))⟩⟩, ⟨fun v w w2 e h => h, fun v w w2 b cs T fz s hb hT h => h⟩, ⟨fun v w w2 e h => h, fun v w w2 b cs T fz s hb hT h => h⟩, ⟨fun v w w2 e ⟨nr151, A152, n153, c154, hv, h0_⟩ => ⟨nr151, A152, n153, c154, hv, h0_.ext e⟩, fun v w w2 b cs T fz s hb hT ⟨nr151, A152, n153, c154, hv, h0_⟩ => ⟨nr151, A152, n153, c154, hv, h0_.st s hb (ts_ne hT (by decide))⟩⟩, ⟨fun v w w2 e h => h, fun v w w2 b cs T fz s hb hT h => h⟩, ⟨fun v w w2 e h => h, fun v w w2 b cs T fz s hb hT h => h⟩, ⟨fun v w w2 e h => h, fun v w w2 b cs T fz s hb hT h => h⟩, ⟨fun v w w2 e h => h, fun v w w2 b cs T fz s hb hT h => h⟩, ⟨fun v w w2 e h => h, fun v w w2 b cs T fz s hb hT h => h⟩, ⟨fun v w w2 e h => h, fun v w w2 b cs T fz s hb hT h => h⟩, ⟨fun v w w2 e ⟨nr208, A209, n210, c211, hv, h0_⟩ => ⟨nr208, A209, n210, c211, hv, h0_.ext e⟩, fun v w w2 b cs T fz s hb hT ⟨nr208, A209, n210, c211, hv, h0_⟩ => ⟨nr208, A209, n210, c211, hv, h0_.st s hb (ts_ne hT (by decide))⟩⟩, ⟨fun v w w2 e h => h, fun v w w2 b cs T fz s hb hT h => h⟩, ⟨fun v w w2 e h => h, fun v w w2 b cs T fz s hb hT h => h⟩, ⟨fun v w w2 e ⟨nr244, A245, n246, c247, hv, h0_⟩ => ⟨nr244, A245, n246, c247, hv, h0_.ext e⟩, fun v w w2 b cs T fz s hb hT ⟨nr244, A245, n246, c247, hv, h0_⟩ => ⟨nr244, A245, n246, c247, hv, h0_.st s hb (ts_ne hT (by decide))⟩⟩, ⟨fun v w w2 e ⟨nr266, A267, n268, c269, hv, h0_⟩ => ⟨nr266, A267, n268, c269, hv, h0_.ext e⟩, fun v w w2 b cs T fz s hb hT ⟨nr266, A267, n268, c269, hv, h0_⟩ => ⟨nr266, A267, n268, c269, hv, h0_.st s hb (ts_ne hT (by decide))⟩⟩, ⟨fun v w w2 e ⟨nr288, A289, n290, c291, hv, h0_⟩ => ⟨nr288, A289, n290, c291, hv, h0_.ext e⟩, fun v w w2 b cs T fz s hb hT ⟨nr288, A289, n290, c291, hv, h0_⟩ => ⟨nr288, A289, n290, c291, hv, h0_.st s hb (ts_ne hT (by decide))⟩⟩, ⟨fun v w w2 e ⟨nr314, A315, n316, c317, hv, h0_⟩ => ⟨nr314, A315, n316, c317, hv, h0_.ext e⟩, fun v w w2 b cs T fz s hb hT ⟨nr314, A315, n316, c317, hv, h0_⟩ => ⟨nr314, A315, n316, c317, hv, h0_.st s hb (ts_ne hT (by decide))⟩⟩, ⟨fun v w w2 e h => h, fun v w w2 b cs T fz s hb hT h => h⟩, ⟨fun v w w2 e h => h, fun v w w2 b cs T fz s hb hT h => h⟩, trivial⟩
 · refine ⟨?_, ?_, ?_, ?_, ?_, ?_, ?_, ?_, ?_, ?_, ?_, ?_, ?_, ?_, ?_, ?_, ?_, ?_, ?_, ?_, ?_, ?_, ?_, ?_, trivial⟩
   · refine .inr ⟨by kernel_rfl, ?_⟩
     intro fr59 w58 e60 hF61 hD62
     have E63 := qe E53 e60
     exact DV.oe (dv_fieldAddr (a := ⟨b1, 0, none⟩) (a' := ⟨b1, 0, none⟩) fo27_0 (T rfl (hF61 2 (by kernel_rfl))) rfl) ⟨Below.refl _ _, rfl⟩
   · refine .inr ⟨by kernel_rfl, ?_⟩
     intro fr65 w64 e66 hF67 hD68
     have E69 := qe E53 e66
     have hv70 : fr65 24 = .pointer (some ⟨b1, 0, none⟩) := hD68 0 _ (by kernel_rfl) rfl (by kernel_rfl)
     exact DV.oe (dv_fieldAddr (a := ⟨b1, 0, none⟩) (a' := ⟨b1, 1, none⟩) fo25_1 (T rfl hv70) rfl) ⟨Below.refl _ _, rfl⟩
   · refine .inr ⟨by kernel_rfl, ?_⟩
     intro fr72 w71 e73 hF74 hD75
     have E76 := qe E53 e73
     have hv77 : fr72 25 = .pointer (some ⟨b1, 1, none⟩) := hD75 1 _ (by kernel_rfl) rfl (by kernel_rfl)
     have H78 := (e73.blk H54)
     exact DV.oe (dv_load1 (b := b1) (o := 1) agt2 (T rfl hv77) H78 rfl) ⟨Below.refl _ _, rfl⟩
   · refine .inr ⟨by kernel_rfl, ?_⟩
     intro fr80 w79 e81 hF82 hD83
     have E84 := qe E53 e81
     have hv85 : fr80 26 = qi ay := hD83 2 _ (by kernel_rfl) rfl (by kernel_rfl)
     refine oe_callf (vs := [qi ay]) co99 (ar1 (T rfl hv85)) (l1Int_ok  (by omega)) ?_
     rintro _ w91 ⟨nr86, A87, n88, c89, rfl, e92, h90⟩
     have E93 := qe E84 e92
     have lh90 := ql h90
     exact ⟨e92, nr86, A87, n88, c89, rfl, h90⟩
   · refine .inr ⟨by kernel_rfl, ?_⟩
     intro fr95 w94 e96 hF97 hD98
     have E99 := qe E53 e96
     have H100 := (e96.blk H57)
     exact DV.oe (dv_loads (l := [.bool nr17, .slice A18 n19 c20]) agt88 sz88 (T rfl (hF97 5 (by kernel_rfl))) H100 rfl) ⟨Below.refl _ _, rfl⟩
   · refine .inr ⟨by kernel_rfl, ?_⟩
     intro fr102 w101 e103 hF104 hD105
     have E106 := qe E53 e103
     obtain ⟨nr107, A108, n109, c110, hv111, hp112⟩ : ∃ (nr86 : Bool) (A87 : Option Addr) (n88 : Nat) (c89 : Nat), fr102 27 = .agg #[.bool nr86, .slice A87 n88 c89] ∧ Num 32 168 .u32 w101 nr86 A87 n88 c89 ay 64 := hD105 3 _ (by kernel_rfl) rfl (by kernel_rfl)
     have lhp112 := ql hp112
     have hv113 : fr102 28 = .agg #[.bool nr17, .slice A18 n19 c20] := hD105 4 _ (by kernel_rfl) rfl (by kernel_rfl)
     have h114 := ((((((h21.ext n27.ext).st s32 n27.blk (by decide)).ext e42).ext n46.ext).st s51 n46.blk (by decide)).ext e103)
     refine oe_callf (vs := [.agg #[.bool nr107, .slice A108 n109 c110], .agg #[.bool nr17, .slice A18 n19 c20]]) co109 (ar2 (T rfl hv111) (T rfl hv113)) (l1Mul_ok hp112 h114 (by first | decide | omega) (by first | decide | omega)) ?_
     rintro _ w120 ⟨nr115, A116, n117, c118, rfl, e121, h119⟩
     have E122 := qe E106 e121
     have lh119 := ql h119
     exact ⟨e121, nr115, A116, n117, c118, rfl, h119⟩
   · refine .inr ⟨by kernel_rfl, ?_⟩
     intro fr124 w123 e125 hF126 hD127
     have E128 := qe E53 e125
     exact DV.oe (dv_fieldAddr (a := ⟨b6, 0, none⟩) (a' := ⟨b6, 4, none⟩) fo90_2 (T rfl (hF126 3 (by kernel_rfl))) rfl) ⟨Below.refl _ _, rfl⟩
   · refine .inr ⟨by kernel_rfl, ?_⟩
     intro fr130 w129 e131 hF132 hD133
     have E134 := qe E53 e131
     have hv135 : fr130 30 = .pointer (some ⟨b6, 4, none⟩) := hD133 6 _ (by kernel_rfl) rfl (by kernel_rfl)
     have H136 := (e131.blk H55)
     exact DV.oe (dv_loads (l := [.bool nm, .slice Am lm cm]) agt88 sz88 (T rfl hv135) H136 rfl) ⟨Below.refl _ _, rfl⟩
   · refine .inr ⟨by kernel_rfl, ?_⟩
     intro fr138 w137 e139 hF140 hD141
     have E142 := qe E53 e139
     obtain ⟨nr143, A144, n145, c146, hv147, hp148⟩ : ∃ (nr115 : Bool) (A116 : Option Addr) (n117 : Nat) (c118 : Nat), fr138 29 = .agg #[.bool nr115, .slice A116 n117 c118] ∧ Num 32 168 .u32 w137 nr115 A116 n117 c118 (ay * (bx - ax)) 128 := hD141 5 _ (by kernel_rfl) rfl (by kernel_rfl)
     have lhp148 := ql hp148
     have hv149 : fr138 31 = .agg #[.bool nm, .slice Am lm cm] := hD141 7 _ (by kernel_rfl) rfl (by kernel_rfl)
     have h150 := hm.ext E142
     refine oe_callf (vs := [.agg #[.bool nr143, .slice A144 n145 c146], .agg #[.bool nm, .slice Am lm cm]]) co109 (ar2 (T rfl hv147) (T rfl hv149)) (l1Mul_ok hp148 h150 (by first | decide | omega) (by first | decide | omega)) ?_
     rintro _ w156 ⟨nr151, A152, n153, c154, rfl, e157, h155⟩
     have E158 := qe E142 e157
     have lh155 := ql h155
     exact ⟨e157, nr151, A152, n153, c154, rfl, h155⟩
   · refine .inr ⟨by kernel_rfl, ?_⟩
     intro fr160 w159 e161 hF162 hD163
     have E164 := qe E53 e161
     have H165 := (e161.blk H52)
     exact DV.oe (dv_loads (l := [.bool nr36, .slice A37 n38 c39]) agt88 sz88 (T rfl (hF162 6 (by kernel_rfl))) H165 rfl) ⟨Below.refl _ _, rfl⟩
   · refine .inr ⟨by kernel_rfl, ?_⟩
     intro fr167 w166 e168 hF169 hD170
     have E171 := qe E53 e168
     exact DV.oe (dv_fieldAddr (a := ⟨b6, 0, none⟩) (a' := ⟨b6, 0, none⟩) fo90_0 (T rfl (hF169 3 (by kernel_rfl))) rfl) ⟨Below.refl _ _, rfl⟩
   · refine .inr ⟨by kernel_rfl, ?_⟩
     intro fr173 w172 e174 hF175 hD176
     have E177 := qe E53 e174
     have hv178 : fr173 34 = .pointer (some ⟨b6, 0, none⟩) := hD176 10 _ (by kernel_rfl) rfl (by kernel_rfl)
     have H179 := (e174.blk H55)
     exact DV.oe (dv_loads (l := [.bool na, .slice Aa la ca]) agt88 sz88 (T rfl hv178) H179 rfl) ⟨Below.refl _ _, rfl⟩
   · refine .inr ⟨by kernel_rfl, ?_⟩
     intro fr181 w180 e182 hF183 hD184
     have E185 := qe E53 e182
     exact DV.oe (dv_fieldAddr (a := ⟨b1, 0, none⟩) (a' := ⟨b1, 0, none⟩) fo27_0 (T rfl (hF183 2 (by kernel_rfl))) rfl) ⟨Below.refl _ _, rfl⟩
   · refine .inr ⟨by kernel_rfl, ?_⟩
     intro fr187 w186 e188 hF189 hD190
     have E191 := qe E53 e188
     have hv192 : fr187 36 = .pointer (some ⟨b1, 0, none⟩) := hD190 12 _ (by kernel_rfl) rfl (by kernel_rfl)
     exact DV.oe (dv_fieldAddr (a := ⟨b1, 0, none⟩) (a' := ⟨b1, 0, none⟩) fo25_0 (T rfl hv192) rfl) ⟨Below.refl _ _, rfl⟩
   · refine .inr ⟨by kernel_rfl, ?_⟩
     intro fr194 w193 e195 hF196 hD197
     have E198 := qe E53 e195
     have hv199 : fr194 37 = .pointer (some ⟨b1, 0, none⟩) := hD197 13 _ (by kernel_rfl) rfl (by kernel_rfl)
     have H200 := (e195.blk H54)
     exact DV.oe (dv_load1 (b := b1) (o := 0) agt2 (T rfl hv199) H200 rfl) ⟨Below.refl _ _, rfl⟩
   · refine .inr ⟨by kernel_rfl, ?_⟩
     intro fr202 w201 e203 hF204 hD205
     have E206 := qe E53 e203
     have hv207 : fr202 38 = qi ax := hD205 14 _ (by kernel_rfl) rfl (by kernel_rfl)
     refine oe_callf (vs := [qi ax]) co99 (ar1 (T rfl hv207)) (l1Int_ok  (by omega)) ?_
     rintro _ w213 ⟨nr208, A209, n210, c211, rfl, e214, h212⟩
     have E215 := qe E206 e214
     have lh212 := ql h212
     exact ⟨e214, nr208, A209, n210, c211, rfl, h212⟩
   · refine .inr ⟨by kernel_rfl, ?_⟩
     intro fr217 w216 e218 hF219 hD220
     have E221 := qe E53 e218
     exact DV.oe (dv_fieldAddr (a := ⟨b6, 0, none⟩) (a' := ⟨b6, 4, none⟩) fo90_2 (T rfl (hF219 3 (by kernel_rfl))) rfl) ⟨Below.refl _ _, rfl⟩
   · refine .inr ⟨by kernel_rfl, ?_⟩
     intro fr223 w222 e224 hF225 hD226
     have E227 := qe E53 e224
     have hv228 : fr223 40 = .pointer (some ⟨b6, 4, none⟩) := hD226 16 _ (by kernel_rfl) rfl (by kernel_rfl)
     have H229 := (e224.blk H55)
     exact DV.oe (dv_loads (l := [.bool nm, .slice Am lm cm]) agt88 sz88 (T rfl hv228) H229 rfl) ⟨Below.refl _ _, rfl⟩
   · refine .inr ⟨by kernel_rfl, ?_⟩
     intro fr231 w230 e232 hF233 hD234
     have E235 := qe E53 e232
     obtain ⟨nr236, A237, n238, c239, hv240, hp241⟩ : ∃ (nr208 : Bool) (A209 : Option Addr) (n210 : Nat) (c211 : Nat), fr231 39 = .agg #[.bool nr208, .slice A209 n210 c211] ∧ Num 32 168 .u32 w230 nr208 A209 n210 c211 ax 64 := hD234 15 _ (by kernel_rfl) rfl (by kernel_rfl)
     have lhp241 := ql hp241
     have hv242 : fr231 41 = .agg #[.bool nm, .slice Am lm cm] := hD234 17 _ (by kernel_rfl) rfl (by kernel_rfl)
     have h243 := hm.ext E235
     refine oe_callf (vs := [.agg #[.bool nr236, .slice A237 n238 c239], .agg #[.bool nm, .slice Am lm cm]]) co109 (ar2 (T rfl hv240) (T rfl hv242)) (l1Mul_ok hp241 h243 (by first | decide | omega) (by first | decide | omega)) ?_
     rintro _ w249 ⟨nr244, A245, n246, c247, rfl, e250, h248⟩
     have E251 := qe E235 e250
     have lh248 := ql h248
     exact ⟨e250, nr244, A245, n246, c247, rfl, h248⟩
   · refine .inr ⟨by kernel_rfl, ?_⟩
     intro fr253 w252 e254 hF255 hD256
     have E257 := qe E53 e254
     have hv258 : fr253 35 = .agg #[.bool na, .slice Aa la ca] := hD256 11 _ (by kernel_rfl) rfl (by kernel_rfl)
     obtain ⟨nr259, A260, n261, c262, hv263, hp264⟩ : ∃ (nr244 : Bool) (A245 : Option Addr) (n246 : Nat) (c247 : Nat), fr253 42 = .agg #[.bool nr244, .slice A245 n246 c247] ∧ Num 32 168 .u32 w252 nr244 A245 n246 c247 (ax * u) 320 := hD256 18 _ (by kernel_rfl) rfl (by kernel_rfl)
     have lhp264 := ql hp264
     have h265 := ha.ext E257
     refine oe_callf (vs := [.agg #[.bool na, .slice Aa la ca], .agg #[.bool nr259, .slice A260 n261 c262]]) co129 (ar2 (T rfl hv258) (T rfl hv263)) (l1Sub_ok h265 hp264 (by first | decide | omega) (by first | decide | omega)) ?_
     rintro _ w271 ⟨nr266, A267, n268, c269, rfl, e272, h270⟩
     have E273 := qe E257 e272
     have lh270 := ql h270
     exact ⟨e272, nr266, A267, n268, c269, rfl, h270⟩
   · refine .inr ⟨by kernel_rfl, ?_⟩
     intro fr275 w274 e276 hF277 hD278
     have E279 := qe E53 e276
     have hv280 : fr275 33 = .agg #[.bool nr36, .slice A37 n38 c39] := hD278 9 _ (by kernel_rfl) rfl (by kernel_rfl)
     obtain ⟨nr281, A282, n283, c284, hv285, hp286⟩ : ∃ (nr266 : Bool) (A267 : Option Addr) (n268 : Nat) (c269 : Nat), fr275 43 = .agg #[.bool nr266, .slice A267 n268 c269] ∧ Num 32 168 .u32 w274 nr266 A267 n268 c269 (x - (ax * u)) 321 := hD278 19 _ (by kernel_rfl) rfl (by kernel_rfl)
     have lhp286 := ql hp286
     have h287 := (((h40.ext n46.ext).st s51 n46.blk (by decide)).ext e276)
     refine oe_callf (vs := [.agg #[.bool nr36, .slice A37 n38 c39], .agg #[.bool nr281, .slice A282 n283 c284]]) co109 (ar2 (T rfl hv280) (T rfl hv285)) (l1Mul_ok h287 hp286 (by first | decide | omega) (by first | decide | omega)) ?_
     rintro _ w293 ⟨nr288, A289, n290, c291, rfl, e294, h292⟩
     have E295 := qe E279 e294
     have lh292 := ql h292
     exact ⟨e294, nr288, A289, n290, c291, rfl, h292⟩
   · refine .inr ⟨by kernel_rfl, ?_⟩
     intro fr297 w296 e298 hF299 hD300
     have E301 := qe E53 e298
     obtain ⟨nr302, A303, n304, c305, hv306, hp307⟩ : ∃ (nr151 : Bool) (A152 : Option Addr) (n153 : Nat) (c154 : Nat), fr297 32 = .agg #[.bool nr151, .slice A152 n153 c154] ∧ Num 32 168 .u32 w296 nr151 A152 n153 c154 ((ay * (bx - ax)) * u) 384 := hD300 8 _ (by kernel_rfl) rfl (by kernel_rfl)
     have lhp307 := ql hp307
     obtain ⟨nr308, A309, n310, c311, hv312, hp313⟩ : ∃ (nr288 : Bool) (A289 : Option Addr) (n290 : Nat) (c291 : Nat), fr297 44 = .agg #[.bool nr288, .slice A289 n290 c291] ∧ Num 32 168 .u32 w296 nr288 A289 n290 c291 ((b_y - ay) * (x - (ax * u))) 385 := hD300 20 _ (by kernel_rfl) rfl (by kernel_rfl)
     have lhp313 := ql hp313
     refine oe_callf (vs := [.agg #[.bool nr302, .slice A303 n304 c305], .agg #[.bool nr308, .slice A309 n310 c311]]) co137 (ar2 (T rfl hv306) (T rfl hv312)) (l1Add_ok hp307 hp313 (by first | decide | omega) (by first | decide | omega)) ?_
     rintro _ w319 ⟨nr314, A315, n316, c317, rfl, e320, h318⟩
     have E321 := qe E301 e320
     have lh318 := ql h318
     exact ⟨e320, nr314, A315, n316, c317, rfl, h318⟩
   · exact .inl (.inr ⟨by kernel_rfl, fun _ _ => trivial⟩)
   exact .inl (.inl (by kernel_rfl))
 · refine ⟨⟨⟨_, rfl, fun _ _ => oe_alloc ze88 fun b w hn => ⟨b, rfl, hn⟩⟩, ⟨_, rfl, ?_⟩⟩, trivial⟩
   intro fr323 w322 b327 e324 hF325 hD326 hA328 hB329
   have E330 := qe E53 e324
   obtain ⟨nr331, A332, n333, c334, hv335, hp336⟩ : ∃ (nr314 : Bool) (A315 : Option Addr) (n316 : Nat) (c317 : Nat), fr323 45 = .agg #[.bool nr314, .slice A315 n316 c317] ∧ Num 32 168 .u32 w322 nr314 A315 n316 c317 (((ay * (bx - ax)) * u) + ((b_y - ay) * (x - (ax * u)))) 386 := hD326 21 _ (by kernel_rfl) rfl (by kernel_rfl)
   have lhp336 := ql hp336
   refine oe_store (v := .agg #[.bool nr331, .slice A332 n333 c334]) (vs := [.bool nr331, .slice A332 n333 c334]) (l := [.bool nr331, .slice A332 n333 c334]) (T rfl hA328) (T rfl hv335) sz88 rfl rfl rfl hB329 rfl ?_
   intro w337 s338 H339
   exact ⟨s338, H339.trans (congrArg (fun v : Value => some (Obj.cells v.cells 88)) (show fr323 45 = _ from hv335).symm)⟩
 intro fr342 w341 e343 hF344 hP345 hM346 hN347
 have E348 := qe E53 e343
 obtain ⟨_, _, _, _, _, _, _, _, _, _, _, _, _, _, _, _, _, _, _, _, _, p349, _, _, _⟩ := hP345
 obtain ⟨nr350, A351, n352, c353, hv354, hp355⟩ : ∃ (nr314 : Bool) (A315 : Option Addr) (n316 : Nat) (c317 : Nat), fr342 45 = .agg #[.bool nr314, .slice A315 n316 c317] ∧ Num 32 168 .u32 w341 nr314 A315 n316 c317 (((ay * (bx - ax)) * u) + ((b_y - ay) * (x - (ax * u)))) 386 := p349.resolve_left (nst (by kernel_rfl))
 have lhp355 := ql hp355
 obtain ⟨⟨b356, hA357, hB358, hC359⟩, _⟩ := hM346
 have H360 : w341.heap[b356]? = some (.cells #[.bool nr350, .slice A351 n352 c353] 88) := hC359.trans (congrArg (fun v : Value => some (Obj.cells v.cells 88)) hv354)
 have N361 : w.heap.size ≤ b356 := by omega
 refine rk_seq <| rk_any (fun w => w.heap[b6]? = some (.cells #[.bool na, .slice Aa la ca, .bool nb, .slice Ab lb cb, .bool nm, .slice Am lm cm] 90) ∧ w.heap[b25]? = some (.cells #[.bool nr17, .slice A18 n19 c20] 88) ∧ w.heap[b356]? = some (.cells #[.bool nr350, .slice A351 n352 c353] 88)) [10] mo ?_
 intro w362 d363
 have E364 := qe E348 d363.ext
 have H365 := (d363.ext.blk (e343.blk H55))
 have H366 := (d363.ext.blk (e343.blk H57))
 have H367 := (d363.ext.blk H360)
 refine aw_pure 0 (.pointer (some ⟨b6, 0, none⟩)) rfl (by kernel_rfl) .none ⟨H365, H366, H367⟩ (fun _ => dv_fieldAddr (a := ⟨b6, 0, none⟩) (a' := ⟨b6, 0, none⟩) fo90_0 (T rfl (hF344 3 rfl)) rfl) <| aw_load 1 (.agg #[.bool na, .slice Aa la ca]) rfl (by kernel_rfl) .none ⟨H365, H366, H367⟩ (fun _ s => dv_loads (l := [.bool na, .slice Aa la ca]) agt88 sz88 (Z rfl) s.1 rfl) <| aw_load 2 (.agg #[.bool nr17, .slice A18 n19 c20]) rfl (by kernel_rfl) .none ⟨H365, H366, H367⟩ (fun _ s => dv_loads (l := [.bool nr17, .slice A18 n19 c20]) agt88 sz88 (T rfl (hF344 5 rfl)) s.2.1 rfl) <| aw_load 4 (.agg #[.bool nr350, .slice A351 n352 c353]) rfl (by kernel_rfl) .none ⟨H365, H366, H367⟩ (fun _ s => dv_loads (l := [.bool nr350, .slice A351 n352 c353]) agt88 sz88 (T rfl hA357) s.2.2 rfl) <| aw_pure 5 (.pointer (some ⟨b6, 4, none⟩)) rfl (by kernel_rfl) .none ⟨H365, H366, H367⟩ (fun _ => dv_fieldAddr (a := ⟨b6, 0, none⟩) (a' := ⟨b6, 4, none⟩) fo90_2 (T rfl (hF344 3 rfl)) rfl) <| aw_load 6 (.agg #[.bool nm, .slice Am lm cm]) rfl (by kernel_rfl) .none ⟨H365, H366, H367⟩ (fun _ s => dv_loads (l := [.bool nm, .slice Am lm cm]) agt88 sz88 (Z rfl) s.1 rfl) <| aw_load 7 (.agg #[.bool nr17, .slice A18 n19 c20]) rfl (by kernel_rfl) .none ⟨H365, H366, H367⟩ (fun _ s => dv_loads (l := [.bool nr17, .slice A18 n19 c20]) agt88 sz88 (T rfl (hF344 5 rfl)) s.2.1 rfl) ?_
 have h368 := ha.ext E364
 have h369 := (((((((h21.ext n27.ext).st s32 n27.blk (by decide)).ext e42).ext n46.ext).st s51 n46.blk (by decide)).ext e343).ext d363.ext)
 refine aw_one 3 rfl (by kernel_rfl) .none (oe_callf (vs := [.agg #[.bool na, .slice Aa la ca], .agg #[.bool nr17, .slice A18 n19 c20]]) co109 (ar2 (Z rfl) (Z rfl)) (l1Mul_ok h368 h369 (by first | decide | omega) (by first | decide | omega)) ?_)
 rintro _ w375 ⟨nr370, A371, n372, c373, rfl, e376, h374⟩
 have E377 := qe E364 e376
 have lh374 := ql h374
 have H378 := (e376.blk H365)
 have H379 := (e376.blk H366)
 have H380 := (e376.blk H367)
 refine ⟨.inr ⟨H378, H379, H380⟩, ?_⟩
 have h381 := hm.ext E377
 have h382 := (h369.ext e376)
 refine aw_one 8 rfl (by kernel_rfl) .none (oe_callf (vs := [.agg #[.bool nm, .slice Am lm cm], .agg #[.bool nr17, .slice A18 n19 c20]]) co109 (ar2 (Z rfl) (Z rfl)) (l1Mul_ok h381 h382 (by first | decide | omega) (by first | decide | omega)) ?_)
 rintro _ w388 ⟨nr383, A384, n385, c386, rfl, e389, h387⟩
 have E390 := qe E377 e389
 have lh387 := ql h387
 have H391 := (e389.blk H378)
 have H392 := (e389.blk H379)
 have H393 := (e389.blk H380)
 refine ⟨.inr ⟨H391, H392, H393⟩, ?_⟩
 have h394 := (h374.ext e389)
 have h395 := (((hp355.ext d363.ext).ext e376).ext e389)
 refine aw_one 9 rfl (by kernel_rfl) .none (oe_callf (vs := [.agg #[.bool nr370, .slice A371 n372 c373], .agg #[.bool nr350, .slice A351 n352 c353], .agg #[.bool nr383, .slice A384 n385 c386]]) co138 (ar3 (Z rfl) (Z rfl) (Z rfl)) (l3Make_ok h394 h395 h387 (by first | decide | omega) (by first | decide | omega) (by first | decide | omega) (by exact Int.ne_of_gt (Int.mul_pos hu0 (by omega)))) ?_)
 rintro _ w411 ⟨nr396, A397, n398, c399, nr400, A401, n402, c403, nr404, A405, n406, c407, rfl, e412, h408, h409, h410⟩
 have E413 := qe E390 e412
 have lh408 := ql h408
 have lh409 := ql h409
 have lh410 := ql h410
 have H414 := (e412.blk H391)
 have H415 := (e412.blk H392)
 have H416 := (e412.blk H393)
 refine ⟨.inr ⟨H414, H415, H416⟩, ?_⟩
 have H417 := (e412.blk (e389.blk (e376.blk (d363.ext.blk (e343.blk H56)))))
 refine aw_one 10 rfl (by kernel_rfl) .none (oe_store (v := .agg #[.bool nr396, .slice A397 n398 c399, .bool nr400, .slice A401 n402 c403, .bool nr404, .slice A405 n406 c407]) (vs := [.bool nr396, .slice A397 n398 c399, .bool nr400, .slice A401 n402 c403, .bool nr404, .slice A405 n406 c407]) (l := [.bool nr396, .slice A397 n398 c399, .bool nr400, .slice A401 n402 c403, .bool nr404, .slice A405 n406 c407]) (T rfl (hF344 4 rfl)) (Z rfl) sz90 rfl rfl rfl H417 rfl ?_)
 intro w418 s419 H420
 have E421 := below_st E413 N14 s419
 refine ⟨.inl rfl, ?_⟩
 refine aw_done (by kernel_rfl) <| rk_ret Try.func110 (v := .agg #[.bool nr396, .slice A397 n398 c399, .bool nr400, .slice A401 n402 c403, .bool nr404, .slice A405 n406 c407]) (res1 Try.results110 (rv_cells (l := [.bool nr396, .slice A397 n398 c399, .bool nr400, .slice A401 n402 c403, .bool nr404, .slice A405 n406 c407]) agt90 sz90 rfl (hF344 4 rfl) H420 rfl)) ⟨_, rfl, ?_⟩
 have h422 := (h408.st s419 H417 (by decide))
 have h423 := (h409.st s419 H417 (by decide))
 have h424 := (h410.st s419 H417 (by decide))
 exact ⟨_, _, _, _, _, _, _, _, _, _, _, _, rfl, E421, h422.to rfl (by decide), h423.to rfl (by decide), h424.to rfl (by decide)⟩
set_option maxRecDepth 100000 in
set_option maxHeartbeats 8000000 in
theorem l7Below_ok {w : World} {i k : Nat} {Aq : Option Addr} {l c : Nat} {xs : List Int} (hx : RdI w .i64 Aq xs) (hxl : xs.length = l * 4) (hxb : l ≤ 1048576) {na : Bool} {Aa : Option Addr} {la ca : Nat} {x : Int} (ha : Num 32 168 .u32 w na Aa la ca x 256) {nb : Bool} {Ab : Option Addr} {lb cb : Nat} {y : Int} (hb : Num 32 168 .u32 w nb Ab lb cb y 256) {nm : Bool} {Am : Option Addr} {lm cm : Nat} {u : Int} (hm : Num 32 168 .u32 w nm Am lm cm u 256) (hsg : segsOk l xs) (h40 : l ≤ 40) (hu0 : 0 < u) (hi : i < l) (hk : k < l) (hSi : stS xs x u i) (hSk : stS xs x u k) : Ct Try.prog 64 [.slice Aq l c, .int .i64 ((i : Int)), .int .i64 ((k : Int)), .agg #[.bool na, .slice Aa la ca, .bool nb, .slice Ab lb cb, .bool nm, .slice Am lm cm]] w fun v w1 => v = .bool (decide (cfN xs x u i k < 0)) ∧ Ext w w1 := by
 refine ct_run (n := 70) Try.func64 rfl Try.ntmps64 rfl ?_
 have E0 : Below w.heap.size w w := Below.refl _ _
 have lha := ql ha
 have lhb := ql hb
 have lhm := ql hm
 have r1 := segOk_rg (hsg i hi); have r2 := segOk_rg (hsg k hk)
 have d1 := stS_dX hu0 hSi; have d2 := stS_dX hu0 hSk; have d1_ := d1; have d2_ := d2; unfold dX at d1_ d2_
 obtain ⟨ga_, oa_, rfl⟩ := RdI.at hx (by omega)
 refine rk_seq <| rk_reg <| lw_e (oe_box (v := .agg #[.bool na, .slice Aa la ca, .bool nb, .slice Ab lb cb, .bool nm, .slice Am lm cm]) (cs := #[.bool na, .slice Aa la ca, .bool nb, .slice Ab lb cb, .bool nm, .slice Am lm cm]) (Z rfl) rfl ?_)
 intro b1 w2 n3
 have N4 : w.heap.size ≤ b1 := n3.eq ▸ E0.size
 have E5 := qe E0 n3.ext
 refine lw_v (.bool false) (dv_assign C) <| qN <| qm (.slice (some ⟨ga_, oa_, none⟩) l c) rfl rfl <| qm (qi (i : Int)) rfl rfl <| lw_v (.pointer (some ⟨ga_, oa_ + i * 4, none⟩)) (dv_indexM (g := ga_) (o := oa_) (l := l) (c := c) (i := i) (j := (i : Int)) (m := 4) us64 sz27 (Z rfl) (Z rfl) (by omega) (by first | omega | simp <;> omega)) ?_
 have h6 := (hx.ext n3.ext)
 refine lw_v (.agg #[qi (xs.getD (i * 4) 0), qi (xs.getD (i * 4 + 1) 0), qi (xs.getD (i * 4 + 2) 0), qi (xs.getD (i * 4 + 3) 0)]) (dv_loadsI (i := i * 4) (m := 4) (k := .i64) (L := xs) (l := [qi (xs.getD (i * 4) 0), qi (xs.getD (i * 4 + 1) 0), qi (xs.getD (i * 4 + 2) 0), qi (xs.getD (i * 4 + 3) 0)]) agt27 sz27 (Z rfl) h6 (by first | omega | simp <;> omega) rfl) <| lw_e (oe_alloc ze27 ?_)
 intro b7 w8 n9
 have N10 : w.heap.size ≤ b7 := n9.eq ▸ E5.size
 have : b1 < b7 := n9.eq ▸ lt_of_blk n3.blk
 have E11 := qe E5 n9.ext
 refine lw_e (oe_store (v := .agg #[qi (xs.getD (i * 4) 0), qi (xs.getD (i * 4 + 1) 0), qi (xs.getD (i * 4 + 2) 0), qi (xs.getD (i * 4 + 3) 0)]) (vs := [qi (xs.getD (i * 4) 0), qi (xs.getD (i * 4 + 1) 0), qi (xs.getD (i * 4 + 2) 0), qi (xs.getD (i * 4 + 3) 0)]) (l := [qi (xs.getD (i * 4) 0), qi (xs.getD (i * 4 + 1) 0), qi (xs.getD (i * 4 + 2) 0), qi (xs.getD (i * 4 + 3) 0)]) (Z rfl) (Z rfl) sz27 rfl rfl rfl n9.blk rfl ?_)
 intro w12 s13 H14
 have E15 := below_st E11 N10 s13
 refine qN <| qm (.slice (some ⟨ga_, oa_, none⟩) l c) rfl rfl <| qm (qi (k : Int)) rfl rfl <| lw_v (.pointer (some ⟨ga_, oa_ + k * 4, none⟩)) (dv_indexM (g := ga_) (o := oa_) (l := l) (c := c) (i := k) (j := (k : Int)) (m := 4) us64 sz27 (Z rfl) (Z rfl) (by omega) (by first | omega | simp <;> omega)) ?_
 have h16 := hx.ext E15
 refine lw_v (.agg #[qi (xs.getD (k * 4) 0), qi (xs.getD (k * 4 + 1) 0), qi (xs.getD (k * 4 + 2) 0), qi (xs.getD (k * 4 + 3) 0)]) (dv_loadsI (i := k * 4) (m := 4) (k := .i64) (L := xs) (l := [qi (xs.getD (k * 4) 0), qi (xs.getD (k * 4 + 1) 0), qi (xs.getD (k * 4 + 2) 0), qi (xs.getD (k * 4 + 3) 0)]) agt27 sz27 (Z rfl) h16 (by first | omega | simp <;> omega) rfl) <| lw_e (oe_alloc ze27 ?_)
 intro b17 w18 n19
 have N20 : w.heap.size ≤ b17 := n19.eq ▸ E15.size
 have : b7 < b17 := n19.eq ▸ lt_of_blk H14
 have E21 := qe E15 n19.ext
 refine lw_e (oe_store (v := .agg #[qi (xs.getD (k * 4) 0), qi (xs.getD (k * 4 + 1) 0), qi (xs.getD (k * 4 + 2) 0), qi (xs.getD (k * 4 + 3) 0)]) (vs := [qi (xs.getD (k * 4) 0), qi (xs.getD (k * 4 + 1) 0), qi (xs.getD (k * 4 + 2) 0), qi (xs.getD (k * 4 + 3) 0)]) (l := [qi (xs.getD (k * 4) 0), qi (xs.getD (k * 4 + 1) 0), qi (xs.getD (k * 4 + 2) 0), qi (xs.getD (k * 4 + 3) 0)]) (Z rfl) (Z rfl) sz27 rfl rfl rfl n19.blk rfl ?_)
 intro w22 s23 H24
 have E25 := below_st E21 N20 s23
 refine lw_nil <| rk_seq <| rk_any (fun w => w.heap[b7]? = some (.cells #[qi (xs.getD (i * 4) 0), qi (xs.getD (i * 4 + 1) 0), qi (xs.getD (i * 4 + 2) 0), qi (xs.getD (i * 4 + 3) 0)] 27) ∧ w.heap[b1]? = some (.cells #[.bool na, .slice Aa la ca, .bool nb, .slice Ab lb cb, .bool nm, .slice Am lm cm] 90) ∧ w.heap[b17]? = some (.cells #[qi (xs.getD (k * 4) 0), qi (xs.getD (k * 4 + 1) 0), qi (xs.getD (k * 4 + 2) 0), qi (xs.getD (k * 4 + 3) 0)] 27)) [7] mo ?_
 intro w26 d27
 have E28 := qe E25 d27.ext
 have H29 := (d27.ext.blk (s23.blk (n19.ext.blk H14) (by omega)))
 have H30 := (d27.ext.blk (s23.blk (n19.ext.blk (s13.blk (n9.ext.blk n3.blk) (by omega))) (by omega)))
 have H31 := (d27.ext.blk H24)
 refine aw_load 0 (.agg #[qi (xs.getD (i * 4) 0), qi (xs.getD (i * 4 + 1) 0), qi (xs.getD (i * 4 + 2) 0), qi (xs.getD (i * 4 + 3) 0)]) rfl (by kernel_rfl) .none ⟨H29, H30, H31⟩ (fun _ s => dv_loads (l := [qi (xs.getD (i * 4) 0), qi (xs.getD (i * 4 + 1) 0), qi (xs.getD (i * 4 + 2) 0), qi (xs.getD (i * 4 + 3) 0)]) agt27 sz27 (Z rfl) s.1 rfl) <| aw_load 1 (.agg #[.bool na, .slice Aa la ca, .bool nb, .slice Ab lb cb, .bool nm, .slice Am lm cm]) rfl (by kernel_rfl) .none ⟨H29, H30, H31⟩ (fun _ s => dv_loads (l := [.bool na, .slice Aa la ca, .bool nb, .slice Ab lb cb, .bool nm, .slice Am lm cm]) agt90 sz90 (Z rfl) s.2.1 rfl) <| aw_load 3 (.agg #[qi (xs.getD (k * 4) 0), qi (xs.getD (k * 4 + 1) 0), qi (xs.getD (k * 4 + 2) 0), qi (xs.getD (k * 4 + 3) 0)]) rfl (by kernel_rfl) .none ⟨H29, H30, H31⟩ (fun _ s => dv_loads (l := [qi (xs.getD (k * 4) 0), qi (xs.getD (k * 4 + 1) 0), qi (xs.getD (k * 4 + 2) 0), qi (xs.getD (k * 4 + 3) 0)]) agt27 sz27 (Z rfl) s.2.2 rfl) <| aw_load 4 (.agg #[.bool na, .slice Aa la ca, .bool nb, .slice Ab lb cb, .bool nm, .slice Am lm cm]) rfl (by kernel_rfl) .none ⟨H29, H30, H31⟩ (fun _ s => dv_loads (l := [.bool na, .slice Aa la ca, .bool nb, .slice Ab lb cb, .bool nm, .slice Am lm cm]) agt90 sz90 (Z rfl) s.2.1 rfl) ?_
 have h32 := ha.ext E28
 have h33 := hb.ext E28
 have h34 := hm.ext E28
 refine aw_one 2 rfl (by kernel_rfl) .none (oe_callf (vs := [.agg #[qi (xs.getD (i * 4) 0), qi (xs.getD (i * 4 + 1) 0), qi (xs.getD (i * 4 + 2) 0), qi (xs.getD (i * 4 + 3) 0)], .agg #[.bool na, .slice Aa la ca, .bool nb, .slice Ab lb cb, .bool nm, .slice Am lm cm]]) co110 (ar2 (Z rfl) (Z rfl)) (l7At_ok h32 h33 h34 (by omega) hu0 (by omega)) ?_)
 rintro _ w50 ⟨nr35, A36, n37, c38, nr39, A40, n41, c42, nr43, A44, n45, c46, rfl, e51, h47, h48, h49⟩
 have E52 := qe E28 e51
 have lh47 := ql h47
 have lh48 := ql h48
 have lh49 := ql h49
 have H53 := (e51.blk H29)
 have H54 := (e51.blk H30)
 have H55 := (e51.blk H31)
 refine ⟨.inr ⟨H53, H54, H55⟩, ?_⟩
 have h56 := (h32.ext e51)
 have h57 := (h33.ext e51)
 have h58 := (h34.ext e51)
 refine aw_one 5 rfl (by kernel_rfl) .none (oe_callf (vs := [.agg #[qi (xs.getD (k * 4) 0), qi (xs.getD (k * 4 + 1) 0), qi (xs.getD (k * 4 + 2) 0), qi (xs.getD (k * 4 + 3) 0)], .agg #[.bool na, .slice Aa la ca, .bool nb, .slice Ab lb cb, .bool nm, .slice Am lm cm]]) co110 (ar2 (Z rfl) (Z rfl)) (l7At_ok h56 h57 h58 (by omega) hu0 (by omega)) ?_)
 rintro _ w74 ⟨nr59, A60, n61, c62, nr63, A64, n65, c66, nr67, A68, n69, c70, rfl, e75, h71, h72, h73⟩
 have E76 := qe E52 e75
 have lh71 := ql h71
 have lh72 := ql h72
 have lh73 := ql h73
 have H77 := (e75.blk H53)
 have H78 := (e75.blk H54)
 have H79 := (e75.blk H55)
 refine ⟨.inr ⟨H77, H78, H79⟩, ?_⟩
 have h80 := (h47.ext e75)
 have h81 := (h48.ext e75)
 have h82 := (h49.ext e75)
 refine aw_one 6 rfl (by kernel_rfl) .none (oe_callf (vs := [.agg #[.bool nr35, .slice A36 n37 c38, .bool nr39, .slice A40 n41 c42, .bool nr43, .slice A44 n45 c46], .agg #[.bool nr59, .slice A60 n61 c62, .bool nr63, .slice A64 n65 c66, .bool nr67, .slice A68 n69 c70]]) co100 (ar2 (Z rfl) (Z rfl)) (l3CmpY_ok h80 h81 h82 h71 h72 h73 (by first | decide | omega) (by first | decide | omega) (by first | decide | omega) (by first | decide | omega) (by first | decide | omega) (by first | decide | omega) ) ?_)
 rintro _ w83 ⟨rfl, e84⟩
 have E85 := qe E76 e84
 have H86 := (e84.blk H77)
 have H87 := (e84.blk H78)
 have H88 := (e84.blk H79)
 refine ⟨.inr ⟨H86, H87, H88⟩, ?_⟩
 refine aw_last 7 (qi (sgnI ((pPt (x * ((xs.getD (i * 4 + 2) 0) - (xs.getD (i * 4) 0))) (hS (xs.getD (i * 4) 0) (xs.getD (i * 4 + 1) 0) (xs.getD (i * 4 + 2) 0) (xs.getD (i * 4 + 3) 0) x u) (u * ((xs.getD (i * 4 + 2) 0) - (xs.getD (i * 4) 0))) (hS (xs.getD (i * 4) 0) (xs.getD (i * 4 + 1) 0) (xs.getD (i * 4 + 2) 0) (xs.getD (i * 4 + 3) 0) x u)) * (pPt (x * ((xs.getD (k * 4 + 2) 0) - (xs.getD (k * 4) 0))) (hS (xs.getD (k * 4) 0) (xs.getD (k * 4 + 1) 0) (xs.getD (k * 4 + 2) 0) (xs.getD (k * 4 + 3) 0) x u) (u * ((xs.getD (k * 4 + 2) 0) - (xs.getD (k * 4) 0))) (u * ((xs.getD (k * 4 + 2) 0) - (xs.getD (k * 4) 0)))) - (pPt (x * ((xs.getD (k * 4 + 2) 0) - (xs.getD (k * 4) 0))) (hS (xs.getD (k * 4) 0) (xs.getD (k * 4 + 1) 0) (xs.getD (k * 4 + 2) 0) (xs.getD (k * 4 + 3) 0) x u) (u * ((xs.getD (k * 4 + 2) 0) - (xs.getD (k * 4) 0))) (hS (xs.getD (k * 4) 0) (xs.getD (k * 4 + 1) 0) (xs.getD (k * 4 + 2) 0) (xs.getD (k * 4 + 3) 0) x u)) * (pPt (x * ((xs.getD (i * 4 + 2) 0) - (xs.getD (i * 4) 0))) (hS (xs.getD (i * 4) 0) (xs.getD (i * 4 + 1) 0) (xs.getD (i * 4 + 2) 0) (xs.getD (i * 4 + 3) 0) x u) (u * ((xs.getD (i * 4 + 2) 0) - (xs.getD (i * 4) 0))) (u * ((xs.getD (i * 4 + 2) 0) - (xs.getD (i * 4) 0))))))) rfl (by kernel_rfl) .none (fun _ => dv_assign (Z rfl)) <| aw_done (by kernel_rfl) <| rk_seq <| rk_seq <| rk_reg <| qm (qi (sgnI ((pPt (x * ((xs.getD (i * 4 + 2) 0) - (xs.getD (i * 4) 0))) (hS (xs.getD (i * 4) 0) (xs.getD (i * 4 + 1) 0) (xs.getD (i * 4 + 2) 0) (xs.getD (i * 4 + 3) 0) x u) (u * ((xs.getD (i * 4 + 2) 0) - (xs.getD (i * 4) 0))) (hS (xs.getD (i * 4) 0) (xs.getD (i * 4 + 1) 0) (xs.getD (i * 4 + 2) 0) (xs.getD (i * 4 + 3) 0) x u)) * (pPt (x * ((xs.getD (k * 4 + 2) 0) - (xs.getD (k * 4) 0))) (hS (xs.getD (k * 4) 0) (xs.getD (k * 4 + 1) 0) (xs.getD (k * 4 + 2) 0) (xs.getD (k * 4 + 3) 0) x u) (u * ((xs.getD (k * 4 + 2) 0) - (xs.getD (k * 4) 0))) (u * ((xs.getD (k * 4 + 2) 0) - (xs.getD (k * 4) 0)))) - (pPt (x * ((xs.getD (k * 4 + 2) 0) - (xs.getD (k * 4) 0))) (hS (xs.getD (k * 4) 0) (xs.getD (k * 4 + 1) 0) (xs.getD (k * 4 + 2) 0) (xs.getD (k * 4 + 3) 0) x u) (u * ((xs.getD (k * 4 + 2) 0) - (xs.getD (k * 4) 0))) (hS (xs.getD (k * 4) 0) (xs.getD (k * 4 + 1) 0) (xs.getD (k * 4 + 2) 0) (xs.getD (k * 4 + 3) 0) x u)) * (pPt (x * ((xs.getD (i * 4 + 2) 0) - (xs.getD (i * 4) 0))) (hS (xs.getD (i * 4) 0) (xs.getD (i * 4 + 1) 0) (xs.getD (i * 4 + 2) 0) (xs.getD (i * 4 + 3) 0) x u) (u * ((xs.getD (i * 4 + 2) 0) - (xs.getD (i * 4) 0))) (u * ((xs.getD (i * 4 + 2) 0) - (xs.getD (i * 4) 0))))))) rfl rfl <| lw_v _ (dv_neq (a := sgnI ((pPt (x * ((xs.getD (i * 4 + 2) 0) - (xs.getD (i * 4) 0))) (hS (xs.getD (i * 4) 0) (xs.getD (i * 4 + 1) 0) (xs.getD (i * 4 + 2) 0) (xs.getD (i * 4 + 3) 0) x u) (u * ((xs.getD (i * 4 + 2) 0) - (xs.getD (i * 4) 0))) (hS (xs.getD (i * 4) 0) (xs.getD (i * 4 + 1) 0) (xs.getD (i * 4 + 2) 0) (xs.getD (i * 4 + 3) 0) x u)) * (pPt (x * ((xs.getD (k * 4 + 2) 0) - (xs.getD (k * 4) 0))) (hS (xs.getD (k * 4) 0) (xs.getD (k * 4 + 1) 0) (xs.getD (k * 4 + 2) 0) (xs.getD (k * 4 + 3) 0) x u) (u * ((xs.getD (k * 4 + 2) 0) - (xs.getD (k * 4) 0))) (u * ((xs.getD (k * 4 + 2) 0) - (xs.getD (k * 4) 0)))) - (pPt (x * ((xs.getD (k * 4 + 2) 0) - (xs.getD (k * 4) 0))) (hS (xs.getD (k * 4) 0) (xs.getD (k * 4 + 1) 0) (xs.getD (k * 4 + 2) 0) (xs.getD (k * 4 + 3) 0) x u) (u * ((xs.getD (k * 4 + 2) 0) - (xs.getD (k * 4) 0))) (hS (xs.getD (k * 4) 0) (xs.getD (k * 4 + 1) 0) (xs.getD (k * 4 + 2) 0) (xs.getD (k * 4 + 3) 0) x u)) * (pPt (x * ((xs.getD (i * 4 + 2) 0) - (xs.getD (i * 4) 0))) (hS (xs.getD (i * 4) 0) (xs.getD (i * 4 + 1) 0) (xs.getD (i * 4 + 2) 0) (xs.getD (i * 4 + 3) 0) x u) (u * ((xs.getD (i * 4 + 2) 0) - (xs.getD (i * 4) 0))) (u * ((xs.getD (i * 4 + 2) 0) - (xs.getD (i * 4) 0)))))) (b := 0) (Z rfl) C) <| lw_nil ?_
 by_cases hb89 : (sgnI ((pPt (x * ((xs.getD (i * 4 + 2) 0) - (xs.getD (i * 4) 0))) (hS (xs.getD (i * 4) 0) (xs.getD (i * 4 + 1) 0) (xs.getD (i * 4 + 2) 0) (xs.getD (i * 4 + 3) 0) x u) (u * ((xs.getD (i * 4 + 2) 0) - (xs.getD (i * 4) 0))) (hS (xs.getD (i * 4) 0) (xs.getD (i * 4 + 1) 0) (xs.getD (i * 4 + 2) 0) (xs.getD (i * 4 + 3) 0) x u)) * (pPt (x * ((xs.getD (k * 4 + 2) 0) - (xs.getD (k * 4) 0))) (hS (xs.getD (k * 4) 0) (xs.getD (k * 4 + 1) 0) (xs.getD (k * 4 + 2) 0) (xs.getD (k * 4 + 3) 0) x u) (u * ((xs.getD (k * 4 + 2) 0) - (xs.getD (k * 4) 0))) (u * ((xs.getD (k * 4 + 2) 0) - (xs.getD (k * 4) 0)))) - (pPt (x * ((xs.getD (k * 4 + 2) 0) - (xs.getD (k * 4) 0))) (hS (xs.getD (k * 4) 0) (xs.getD (k * 4 + 1) 0) (xs.getD (k * 4 + 2) 0) (xs.getD (k * 4 + 3) 0) x u) (u * ((xs.getD (k * 4 + 2) 0) - (xs.getD (k * 4) 0))) (hS (xs.getD (k * 4) 0) (xs.getD (k * 4 + 1) 0) (xs.getD (k * 4 + 2) 0) (xs.getD (k * 4 + 3) 0) x u)) * (pPt (x * ((xs.getD (i * 4 + 2) 0) - (xs.getD (i * 4) 0))) (hS (xs.getD (i * 4) 0) (xs.getD (i * 4 + 1) 0) (xs.getD (i * 4 + 2) 0) (xs.getD (i * 4 + 3) 0) x u) (u * ((xs.getD (i * 4 + 2) 0) - (xs.getD (i * 4) 0))) (u * ((xs.getD (i * 4 + 2) 0) - (xs.getD (i * 4) 0)))))) ≠ 0
 · refine rk_ct (T rfl (qT hb89)) <| rk_seq <| rk_reg <| qm (qi (sgnI ((pPt (x * ((xs.getD (i * 4 + 2) 0) - (xs.getD (i * 4) 0))) (hS (xs.getD (i * 4) 0) (xs.getD (i * 4 + 1) 0) (xs.getD (i * 4 + 2) 0) (xs.getD (i * 4 + 3) 0) x u) (u * ((xs.getD (i * 4 + 2) 0) - (xs.getD (i * 4) 0))) (hS (xs.getD (i * 4) 0) (xs.getD (i * 4 + 1) 0) (xs.getD (i * 4 + 2) 0) (xs.getD (i * 4 + 3) 0) x u)) * (pPt (x * ((xs.getD (k * 4 + 2) 0) - (xs.getD (k * 4) 0))) (hS (xs.getD (k * 4) 0) (xs.getD (k * 4 + 1) 0) (xs.getD (k * 4 + 2) 0) (xs.getD (k * 4 + 3) 0) x u) (u * ((xs.getD (k * 4 + 2) 0) - (xs.getD (k * 4) 0))) (u * ((xs.getD (k * 4 + 2) 0) - (xs.getD (k * 4) 0)))) - (pPt (x * ((xs.getD (k * 4 + 2) 0) - (xs.getD (k * 4) 0))) (hS (xs.getD (k * 4) 0) (xs.getD (k * 4 + 1) 0) (xs.getD (k * 4 + 2) 0) (xs.getD (k * 4 + 3) 0) x u) (u * ((xs.getD (k * 4 + 2) 0) - (xs.getD (k * 4) 0))) (hS (xs.getD (k * 4) 0) (xs.getD (k * 4 + 1) 0) (xs.getD (k * 4 + 2) 0) (xs.getD (k * 4 + 3) 0) x u)) * (pPt (x * ((xs.getD (i * 4 + 2) 0) - (xs.getD (i * 4) 0))) (hS (xs.getD (i * 4) 0) (xs.getD (i * 4 + 1) 0) (xs.getD (i * 4 + 2) 0) (xs.getD (i * 4 + 3) 0) x u) (u * ((xs.getD (i * 4 + 2) 0) - (xs.getD (i * 4) 0))) (u * ((xs.getD (i * 4 + 2) 0) - (xs.getD (i * 4) 0))))))) rfl rfl <| lw_v _ (dv_lss (a := sgnI ((pPt (x * ((xs.getD (i * 4 + 2) 0) - (xs.getD (i * 4) 0))) (hS (xs.getD (i * 4) 0) (xs.getD (i * 4 + 1) 0) (xs.getD (i * 4 + 2) 0) (xs.getD (i * 4 + 3) 0) x u) (u * ((xs.getD (i * 4 + 2) 0) - (xs.getD (i * 4) 0))) (hS (xs.getD (i * 4) 0) (xs.getD (i * 4 + 1) 0) (xs.getD (i * 4 + 2) 0) (xs.getD (i * 4 + 3) 0) x u)) * (pPt (x * ((xs.getD (k * 4 + 2) 0) - (xs.getD (k * 4) 0))) (hS (xs.getD (k * 4) 0) (xs.getD (k * 4 + 1) 0) (xs.getD (k * 4 + 2) 0) (xs.getD (k * 4 + 3) 0) x u) (u * ((xs.getD (k * 4 + 2) 0) - (xs.getD (k * 4) 0))) (u * ((xs.getD (k * 4 + 2) 0) - (xs.getD (k * 4) 0)))) - (pPt (x * ((xs.getD (k * 4 + 2) 0) - (xs.getD (k * 4) 0))) (hS (xs.getD (k * 4) 0) (xs.getD (k * 4 + 1) 0) (xs.getD (k * 4 + 2) 0) (xs.getD (k * 4 + 3) 0) x u) (u * ((xs.getD (k * 4 + 2) 0) - (xs.getD (k * 4) 0))) (hS (xs.getD (k * 4) 0) (xs.getD (k * 4 + 1) 0) (xs.getD (k * 4 + 2) 0) (xs.getD (k * 4 + 3) 0) x u)) * (pPt (x * ((xs.getD (i * 4 + 2) 0) - (xs.getD (i * 4) 0))) (hS (xs.getD (i * 4) 0) (xs.getD (i * 4 + 1) 0) (xs.getD (i * 4 + 2) 0) (xs.getD (i * 4 + 3) 0) x u) (u * ((xs.getD (i * 4 + 2) 0) - (xs.getD (i * 4) 0))) (u * ((xs.getD (i * 4 + 2) 0) - (xs.getD (i * 4) 0)))))) (b := 0) (Z rfl) C) <| qs (qd ((sgnI ((pPt (x * ((xs.getD (i * 4 + 2) 0) - (xs.getD (i * 4) 0))) (hS (xs.getD (i * 4) 0) (xs.getD (i * 4 + 1) 0) (xs.getD (i * 4 + 2) 0) (xs.getD (i * 4 + 3) 0) x u) (u * ((xs.getD (i * 4 + 2) 0) - (xs.getD (i * 4) 0))) (hS (xs.getD (i * 4) 0) (xs.getD (i * 4 + 1) 0) (xs.getD (i * 4 + 2) 0) (xs.getD (i * 4 + 3) 0) x u)) * (pPt (x * ((xs.getD (k * 4 + 2) 0) - (xs.getD (k * 4) 0))) (hS (xs.getD (k * 4) 0) (xs.getD (k * 4 + 1) 0) (xs.getD (k * 4 + 2) 0) (xs.getD (k * 4 + 3) 0) x u) (u * ((xs.getD (k * 4 + 2) 0) - (xs.getD (k * 4) 0))) (u * ((xs.getD (k * 4 + 2) 0) - (xs.getD (k * 4) 0)))) - (pPt (x * ((xs.getD (k * 4 + 2) 0) - (xs.getD (k * 4) 0))) (hS (xs.getD (k * 4) 0) (xs.getD (k * 4 + 1) 0) (xs.getD (k * 4 + 2) 0) (xs.getD (k * 4 + 3) 0) x u) (u * ((xs.getD (k * 4 + 2) 0) - (xs.getD (k * 4) 0))) (hS (xs.getD (k * 4) 0) (xs.getD (k * 4 + 1) 0) (xs.getD (k * 4 + 2) 0) (xs.getD (k * 4 + 3) 0) x u)) * (pPt (x * ((xs.getD (i * 4 + 2) 0) - (xs.getD (i * 4) 0))) (hS (xs.getD (i * 4) 0) (xs.getD (i * 4 + 1) 0) (xs.getD (i * 4 + 2) 0) (xs.getD (i * 4 + 3) 0) x u) (u * ((xs.getD (i * 4 + 2) 0) - (xs.getD (i * 4) 0))) (u * ((xs.getD (i * 4 + 2) 0) - (xs.getD (i * 4) 0)))))) < 0)) rfl rfl <| lw_nil <| rk_ret Try.func64 (v := qd ((sgnI ((pPt (x * ((xs.getD (i * 4 + 2) 0) - (xs.getD (i * 4) 0))) (hS (xs.getD (i * 4) 0) (xs.getD (i * 4 + 1) 0) (xs.getD (i * 4 + 2) 0) (xs.getD (i * 4 + 3) 0) x u) (u * ((xs.getD (i * 4 + 2) 0) - (xs.getD (i * 4) 0))) (hS (xs.getD (i * 4) 0) (xs.getD (i * 4 + 1) 0) (xs.getD (i * 4 + 2) 0) (xs.getD (i * 4 + 3) 0) x u)) * (pPt (x * ((xs.getD (k * 4 + 2) 0) - (xs.getD (k * 4) 0))) (hS (xs.getD (k * 4) 0) (xs.getD (k * 4 + 1) 0) (xs.getD (k * 4 + 2) 0) (xs.getD (k * 4 + 3) 0) x u) (u * ((xs.getD (k * 4 + 2) 0) - (xs.getD (k * 4) 0))) (u * ((xs.getD (k * 4 + 2) 0) - (xs.getD (k * 4) 0)))) - (pPt (x * ((xs.getD (k * 4 + 2) 0) - (xs.getD (k * 4) 0))) (hS (xs.getD (k * 4) 0) (xs.getD (k * 4 + 1) 0) (xs.getD (k * 4 + 2) 0) (xs.getD (k * 4 + 3) 0) x u) (u * ((xs.getD (k * 4 + 2) 0) - (xs.getD (k * 4) 0))) (hS (xs.getD (k * 4) 0) (xs.getD (k * 4 + 1) 0) (xs.getD (k * 4 + 2) 0) (xs.getD (k * 4 + 3) 0) x u)) * (pPt (x * ((xs.getD (i * 4 + 2) 0) - (xs.getD (i * 4) 0))) (hS (xs.getD (i * 4) 0) (xs.getD (i * 4 + 1) 0) (xs.getD (i * 4 + 2) 0) (xs.getD (i * 4 + 3) 0) x u) (u * ((xs.getD (i * 4 + 2) 0) - (xs.getD (i * 4) 0))) (u * ((xs.getD (i * 4 + 2) 0) - (xs.getD (i * 4) 0)))))) < 0)) (res1 Try.results64 (rv_tmp rfl rfl)) ⟨_, rfl, ?_⟩
   have hc_ := sgn_hS (xs := xs) (x := x) (u := u) (i := i) (k := k) hu0 d1 d2
   exact ⟨vb (by first | exact below_1 hc_ (by assumption) | exact below_2 hc_ (by assumption) below_t (by assumption) | exact below_3 hc_ (by assumption) below_t (by assumption)), E85⟩
 refine rk_cf (T rfl (qF hb89)) <| rk_skip <| rk_seq <| rk_reg <| lw_v (.pointer (some ⟨b7, 2, none⟩)) (dv_fieldAddr (a := ⟨b7, 0, none⟩) (a' := ⟨b7, 2, none⟩) fo27_1 (Z rfl) rfl) <| lw_v (.pointer (some ⟨b7, 2, none⟩)) (dv_fieldAddr (a := ⟨b7, 2, none⟩) (a' := ⟨b7, 2, none⟩) fo25_0 (Z rfl) rfl) <| lw_v (qi (xs.getD (i * 4 + 2) 0)) (dv_load1 (b := b7) (o := 2) agt2 (Z rfl) H86 rfl) <| lw_v (.pointer (some ⟨b7, 0, none⟩)) (dv_fieldAddr (a := ⟨b7, 0, none⟩) (a' := ⟨b7, 0, none⟩) fo27_0 (Z rfl) rfl) <| lw_v (.pointer (some ⟨b7, 0, none⟩)) (dv_fieldAddr (a := ⟨b7, 0, none⟩) (a' := ⟨b7, 0, none⟩) fo25_0 (Z rfl) rfl) <| lw_v (qi (xs.getD (i * 4) 0)) (dv_load1 (b := b7) (o := 0) agt2 (Z rfl) H86 rfl) <| lw_v _ (dv_sub (a := xs.getD (i * 4 + 2) 0) (b := xs.getD (i * 4) 0) (z := (xs.getD (i * 4 + 2) 0) - (xs.getD (i * 4) 0)) (Z rfl) (Z rfl) (wr_i64 (by omega) (by omega))) <| lw_v (.pointer (some ⟨b17, 2, none⟩)) (dv_fieldAddr (a := ⟨b17, 0, none⟩) (a' := ⟨b17, 2, none⟩) fo27_1 (Z rfl) rfl) <| lw_v (.pointer (some ⟨b17, 3, none⟩)) (dv_fieldAddr (a := ⟨b17, 2, none⟩) (a' := ⟨b17, 3, none⟩) fo25_1 (Z rfl) rfl) <| lw_v (qi (xs.getD (k * 4 + 3) 0)) (dv_load1 (b := b17) (o := 3) agt2 (Z rfl) H88 rfl) <| lw_v (.pointer (some ⟨b17, 0, none⟩)) (dv_fieldAddr (a := ⟨b17, 0, none⟩) (a' := ⟨b17, 0, none⟩) fo27_0 (Z rfl) rfl) <| lw_v (.pointer (some ⟨b17, 1, none⟩)) (dv_fieldAddr (a := ⟨b17, 0, none⟩) (a' := ⟨b17, 1, none⟩) fo25_1 (Z rfl) rfl) <| lw_v (qi (xs.getD (k * 4 + 1) 0)) (dv_load1 (b := b17) (o := 1) agt2 (Z rfl) H88 rfl) <| lw_v _ (dv_sub (a := xs.getD (k * 4 + 3) 0) (b := xs.getD (k * 4 + 1) 0) (z := (xs.getD (k * 4 + 3) 0) - (xs.getD (k * 4 + 1) 0)) (Z rfl) (Z rfl) (wr_i64 (by omega) (by omega))) ?_
 have hm90 := mul_bd (A := 2000000) (B := 2000000) (show -2000000 ≤ ((xs.getD (i * 4 + 2) 0) - (xs.getD (i * 4) 0)) by omega) (by omega) (show -2000000 ≤ ((xs.getD (k * 4 + 3) 0) - (xs.getD (k * 4 + 1) 0)) by omega) (by omega)
 refine lw_v _ (dv_mul (a := (xs.getD (i * 4 + 2) 0) - (xs.getD (i * 4) 0)) (b := (xs.getD (k * 4 + 3) 0) - (xs.getD (k * 4 + 1) 0)) (z := ((xs.getD (i * 4 + 2) 0) - (xs.getD (i * 4) 0)) * ((xs.getD (k * 4 + 3) 0) - (xs.getD (k * 4 + 1) 0))) (Z rfl) (Z rfl) (wr_i64 (by omega) (by omega))) <| lw_v (.pointer (some ⟨b7, 2, none⟩)) (dv_fieldAddr (a := ⟨b7, 0, none⟩) (a' := ⟨b7, 2, none⟩) fo27_1 (Z rfl) rfl) <| lw_v (.pointer (some ⟨b7, 3, none⟩)) (dv_fieldAddr (a := ⟨b7, 2, none⟩) (a' := ⟨b7, 3, none⟩) fo25_1 (Z rfl) rfl) <| lw_v (qi (xs.getD (i * 4 + 3) 0)) (dv_load1 (b := b7) (o := 3) agt2 (Z rfl) H86 rfl) <| lw_v (.pointer (some ⟨b7, 0, none⟩)) (dv_fieldAddr (a := ⟨b7, 0, none⟩) (a' := ⟨b7, 0, none⟩) fo27_0 (Z rfl) rfl) <| lw_v (.pointer (some ⟨b7, 1, none⟩)) (dv_fieldAddr (a := ⟨b7, 0, none⟩) (a' := ⟨b7, 1, none⟩) fo25_1 (Z rfl) rfl) <| lw_v (qi (xs.getD (i * 4 + 1) 0)) (dv_load1 (b := b7) (o := 1) agt2 (Z rfl) H86 rfl) <| lw_v _ (dv_sub (a := xs.getD (i * 4 + 3) 0) (b := xs.getD (i * 4 + 1) 0) (z := (xs.getD (i * 4 + 3) 0) - (xs.getD (i * 4 + 1) 0)) (Z rfl) (Z rfl) (wr_i64 (by omega) (by omega))) <| lw_v (.pointer (some ⟨b17, 2, none⟩)) (dv_fieldAddr (a := ⟨b17, 0, none⟩) (a' := ⟨b17, 2, none⟩) fo27_1 (Z rfl) rfl) <| lw_v (.pointer (some ⟨b17, 2, none⟩)) (dv_fieldAddr (a := ⟨b17, 2, none⟩) (a' := ⟨b17, 2, none⟩) fo25_0 (Z rfl) rfl) <| lw_v (qi (xs.getD (k * 4 + 2) 0)) (dv_load1 (b := b17) (o := 2) agt2 (Z rfl) H88 rfl) <| lw_v (.pointer (some ⟨b17, 0, none⟩)) (dv_fieldAddr (a := ⟨b17, 0, none⟩) (a' := ⟨b17, 0, none⟩) fo27_0 (Z rfl) rfl) <| lw_v (.pointer (some ⟨b17, 0, none⟩)) (dv_fieldAddr (a := ⟨b17, 0, none⟩) (a' := ⟨b17, 0, none⟩) fo25_0 (Z rfl) rfl) <| lw_v (qi (xs.getD (k * 4) 0)) (dv_load1 (b := b17) (o := 0) agt2 (Z rfl) H88 rfl) <| lw_v _ (dv_sub (a := xs.getD (k * 4 + 2) 0) (b := xs.getD (k * 4) 0) (z := (xs.getD (k * 4 + 2) 0) - (xs.getD (k * 4) 0)) (Z rfl) (Z rfl) (wr_i64 (by omega) (by omega))) ?_
 have hm91 := mul_bd (A := 2000000) (B := 2000000) (show -2000000 ≤ ((xs.getD (i * 4 + 3) 0) - (xs.getD (i * 4 + 1) 0)) by omega) (by omega) (show -2000000 ≤ ((xs.getD (k * 4 + 2) 0) - (xs.getD (k * 4) 0)) by omega) (by omega)
 refine lw_v _ (dv_mul (a := (xs.getD (i * 4 + 3) 0) - (xs.getD (i * 4 + 1) 0)) (b := (xs.getD (k * 4 + 2) 0) - (xs.getD (k * 4) 0)) (z := ((xs.getD (i * 4 + 3) 0) - (xs.getD (i * 4 + 1) 0)) * ((xs.getD (k * 4 + 2) 0) - (xs.getD (k * 4) 0))) (Z rfl) (Z rfl) (wr_i64 (by omega) (by omega))) <| lw_v _ (dv_sub (a := ((xs.getD (i * 4 + 2) 0) - (xs.getD (i * 4) 0)) * ((xs.getD (k * 4 + 3) 0) - (xs.getD (k * 4 + 1) 0))) (b := ((xs.getD (i * 4 + 3) 0) - (xs.getD (i * 4 + 1) 0)) * ((xs.getD (k * 4 + 2) 0) - (xs.getD (k * 4) 0))) (z := (((xs.getD (i * 4 + 2) 0) - (xs.getD (i * 4) 0)) * ((xs.getD (k * 4 + 3) 0) - (xs.getD (k * 4 + 1) 0))) - (((xs.getD (i * 4 + 3) 0) - (xs.getD (i * 4 + 1) 0)) * ((xs.getD (k * 4 + 2) 0) - (xs.getD (k * 4) 0)))) (Z rfl) (Z rfl) (wr_i64 (by omega) (by omega))) <| qs (qi ((((xs.getD (i * 4 + 2) 0) - (xs.getD (i * 4) 0)) * ((xs.getD (k * 4 + 3) 0) - (xs.getD (k * 4 + 1) 0))) - (((xs.getD (i * 4 + 3) 0) - (xs.getD (i * 4 + 1) 0)) * ((xs.getD (k * 4 + 2) 0) - (xs.getD (k * 4) 0))))) rfl rfl <| lw_nil <| rk_seq <| rk_seq <| rk_reg <| qm (qi ((((xs.getD (i * 4 + 2) 0) - (xs.getD (i * 4) 0)) * ((xs.getD (k * 4 + 3) 0) - (xs.getD (k * 4 + 1) 0))) - (((xs.getD (i * 4 + 3) 0) - (xs.getD (i * 4 + 1) 0)) * ((xs.getD (k * 4 + 2) 0) - (xs.getD (k * 4) 0))))) rfl rfl <| lw_v _ (dv_neq (a := (((xs.getD (i * 4 + 2) 0) - (xs.getD (i * 4) 0)) * ((xs.getD (k * 4 + 3) 0) - (xs.getD (k * 4 + 1) 0))) - (((xs.getD (i * 4 + 3) 0) - (xs.getD (i * 4 + 1) 0)) * ((xs.getD (k * 4 + 2) 0) - (xs.getD (k * 4) 0)))) (b := 0) (Z rfl) C) <| lw_nil ?_
 by_cases hb92 : ((((xs.getD (i * 4 + 2) 0) - (xs.getD (i * 4) 0)) * ((xs.getD (k * 4 + 3) 0) - (xs.getD (k * 4 + 1) 0))) - (((xs.getD (i * 4 + 3) 0) - (xs.getD (i * 4 + 1) 0)) * ((xs.getD (k * 4 + 2) 0) - (xs.getD (k * 4) 0)))) ≠ 0
 · refine rk_ct (T rfl (qT hb92)) <| rk_seq <| rk_reg <| qm (qi ((((xs.getD (i * 4 + 2) 0) - (xs.getD (i * 4) 0)) * ((xs.getD (k * 4 + 3) 0) - (xs.getD (k * 4 + 1) 0))) - (((xs.getD (i * 4 + 3) 0) - (xs.getD (i * 4 + 1) 0)) * ((xs.getD (k * 4 + 2) 0) - (xs.getD (k * 4) 0))))) rfl rfl <| lw_v _ (dv_gtr (a := (((xs.getD (i * 4 + 2) 0) - (xs.getD (i * 4) 0)) * ((xs.getD (k * 4 + 3) 0) - (xs.getD (k * 4 + 1) 0))) - (((xs.getD (i * 4 + 3) 0) - (xs.getD (i * 4 + 1) 0)) * ((xs.getD (k * 4 + 2) 0) - (xs.getD (k * 4) 0)))) (b := 0) (Z rfl) C) <| qs (qd (0 < ((((xs.getD (i * 4 + 2) 0) - (xs.getD (i * 4) 0)) * ((xs.getD (k * 4 + 3) 0) - (xs.getD (k * 4 + 1) 0))) - (((xs.getD (i * 4 + 3) 0) - (xs.getD (i * 4 + 1) 0)) * ((xs.getD (k * 4 + 2) 0) - (xs.getD (k * 4) 0)))))) rfl rfl <| lw_nil <| rk_ret Try.func64 (v := qd (0 < ((((xs.getD (i * 4 + 2) 0) - (xs.getD (i * 4) 0)) * ((xs.getD (k * 4 + 3) 0) - (xs.getD (k * 4 + 1) 0))) - (((xs.getD (i * 4 + 3) 0) - (xs.getD (i * 4 + 1) 0)) * ((xs.getD (k * 4 + 2) 0) - (xs.getD (k * 4) 0)))))) (res1 Try.results64 (rv_tmp rfl rfl)) ⟨_, rfl, ?_⟩
   have hc_ := sgn_hS (xs := xs) (x := x) (u := u) (i := i) (k := k) hu0 d1 d2
   exact ⟨vb (by first | exact below_1 hc_ (by assumption) | exact below_2 hc_ (by assumption) below_t (by assumption) | exact below_3 hc_ (by assumption) below_t (by assumption)), E85⟩
 refine rk_cf (T rfl (qF hb92)) <| rk_skip <| rk_seq <| rk_reg <| qm (qi (i : Int)) rfl rfl <| qm (qi (k : Int)) rfl rfl <| lw_v _ (dv_lss (a := (i : Int)) (b := (k : Int)) (Z rfl) (Z rfl)) <| qs (qd ((i : Int) < (k : Int))) rfl rfl <| lw_nil <| rk_ret Try.func64 (v := qd ((i : Int) < (k : Int))) (res1 Try.results64 (rv_tmp rfl rfl)) ⟨_, rfl, ?_⟩
 have hc_ := sgn_hS (xs := xs) (x := x) (u := u) (i := i) (k := k) hu0 d1 d2
 exact ⟨vb (by first | exact below_1 hc_ (by assumption) | exact below_2 hc_ (by assumption) below_t (by assumption) | exact below_3 hc_ (by assumption) below_t (by assumption)), E85⟩
theorem l7Below_c {w : World} {a b : Int} {Aq : Option Addr} {l c : Nat} {xs : List Int} (hx : RdI w .i64 Aq xs) (hxl : xs.length = l * 4) (hxb : l ≤ 1048576) {na : Bool} {Aa : Option Addr} {la ca : Nat} {x : Int} (ha : Num 32 168 .u32 w na Aa la ca x 256) {nb : Bool} {Ab : Option Addr} {lb cb : Nat} {y : Int} (hb : Num 32 168 .u32 w nb Ab lb cb y 256) {nm : Bool} {Am : Option Addr} {lm cm : Nat} {u : Int} (hm : Num 32 168 .u32 w nm Am lm cm u 256) (hsg : segsOk l xs) (h40 : l ≤ 40) (hu0 : 0 < u) (ea : stV l xs x u a) (eb : stV l xs x u b) : Ct Try.prog 64 [.slice Aq l c, .int .i64 a, .int .i64 b, .agg #[.bool na, .slice Aa la ca, .bool nb, .slice Ab lb cb, .bool nm, .slice Am lm cm]] w fun v w1 => v = .bool (decide (cfV xs x u a b < 0)) ∧ Ext w w1 := by
 obtain ⟨i, rfl, hi, hSi⟩ := ea
 obtain ⟨k, rfl, hk, hSk⟩ := eb
 exact l7Below_ok hx hxl hxb ha hb hm hsg h40 hu0 hi hk hSi hSk
set_option maxRecDepth 100000 in
set_option maxHeartbeats 8000000 in
theorem sStatusAt_ok {w : World} {x y u : Int} {A : Option Addr} {l c : Nat} {xs : List Int} (hx : RdI w .i64 A xs) (hxl : xs.length = l * 4) (hxb : l ≤ 1048576) (fx_ : fits x) (fy_ : fits y) (fu_ : fits u) : Ct Try.prog 28 [.slice A l c, .agg #[.int .u64 (wv3 x), .int .u64 (wv2 x), .int .u64 (wv1 x), .int .u64 (wv0 x), .int .u64 (wv3 y), .int .u64 (wv2 y), .int .u64 (wv1 y), .int .u64 (wv0 y), .int .u64 (wv3 u), .int .u64 (wv2 u), .int .u64 (wv1 u), .int .u64 (wv0 u)]] w fun v w1 => ∃ Ad cp, v = .slice Ad (stR l xs x y u).length cp ∧ Ext w w1 ∧ Ow w1 w.heap.size 2 .i64 Ad cp (stR l xs x y u) := by
 refine ct_run (n := 79) Try.func28 rfl Try.ntmps28 rfl ?_
 have E0 : Below w.heap.size w w := Below.refl _ _
 refine rk_seq <| rk_reg <| lw_e (oe_box (v := .agg (qA x y u)) (cs := (qA x y u)) (Z rfl) rfl ?_)
 intro b1 w2 n3
 have N4 : w.heap.size ≤ b1 := n3.eq ▸ E0.size
 have E5 := qe E0 n3.ext
 refine lw_v (.slice none 0 0) (dv_assign C) <| qN <| lw_e (oe_buildSlice0 us50 sz2 ?_)
 intro b6 w7 n8
 have N9 : w.heap.size ≤ b6 := n8.eq ▸ E5.size
 have : b1 < b6 := n8.eq ▸ lt_of_blk n3.blk
 have E10 := qe E5 n8.ext
 have hO11 := Ow.made (T := 2) (k := .i64) (z := .int .i64 0) (c := 0) n8 (by decide)
 refine qs (.slice (some ⟨b6, 0, none⟩) (([] : List Int).length) 0) rfl rfl <| lw_nil <| rk_seq <| rk_seq <| rk_reg <| qm (.slice A l c) rfl rfl ?_
 have h12 := ((hx.ext n3.ext).ext n8.ext)
 refine lw_e (oe_callf (vs := [.slice A l c]) co61 (ar1 (Z rfl)) (l7Ok_ok (l := l) (c := c) (xs := xs) h12 (by first | omega | simp <;> omega) (by first | omega | simp <;> omega)) ?_)
 rintro _ w13 ⟨rfl, e14⟩
 have E15 := qe E10 e14
 refine lw_v (qd (¬ (l ≤ 40 ∧ segsOk l xs))) (dv_notd (p := l ≤ 40 ∧ segsOk l xs) (Z rfl)) <| qm (qd (¬ (l ≤ 40 ∧ segsOk l xs))) rfl rfl ?_
 by_cases hb16 : l ≤ 40 ∧ segsOk l xs
 · obtain ⟨h40_, hsg⟩ := id hb16
   have H17 := (e14.blk (n8.ext.blk n3.blk))
   refine lw_vy (.agg (qA x y u)) (d := 14) rfl rfl (congrArg Value.bool (decide_eq_false (not_not_intro hb16))) (dv_loads (l := (qL x y u)) agt40 sz40 (Z rfl) H17 rfl) <| lw_ey (d := 14) rfl rfl (congrArg Value.bool (decide_eq_false (not_not_intro hb16))) (oe_callf (vs := [.agg (qA x y u)]) co50 (ar1 (Z rfl)) (sPointOk_ok (x := x) (y := y) (u := u) fx_ fy_ fu_ ) ?_)
   rintro _ w18 ⟨rfl, e19⟩
   have E20 := qe E15 e19
   refine lw_vy (qd (¬ (pOk x y u))) (d := 14) rfl rfl (congrArg Value.bool (decide_eq_false (not_not_intro hb16))) (dv_notd (p := pOk x y u) (Z rfl)) <| lw_v (qd (¬ (pOk x y u))) (dv_pick_f (T rfl (congrArg Value.bool (decide_eq_false (not_not_intro hb16)))) (Z rfl)) <| lw_nil ?_
   by_cases hb21 : pOk x y u
   · have hu0 := hb21.1
     refine rk_cf (T rfl (congrArg Value.bool (decide_eq_false (not_not_intro hb21)))) <| rk_skip <| rk_seq <| rk_reg ?_
     have H22 := (e19.blk H17)
     refine lw_v (.agg (qA x y u)) (dv_loads (l := (qL x y u)) agt40 sz40 (Z rfl) H22 rfl) <| lw_e (oe_callf (vs := [.agg (qA x y u)]) co52 (ar1 (Z rfl)) (l3Of_ok fx_ fy_ fu_  ) ?_)
     rintro _ w38 ⟨nr23, A24, n25, c26, nr27, A28, n29, c30, nr31, A32, n33, c34, rfl, e39, h35, h36, h37⟩
     have E40 := qe E20 e39
     have lh35 := ql h35
     have lh36 := ql h36
     have lh37 := ql h37
     refine lw_e (oe_alloc ze90 ?_)
     intro b41 w42 n43
     have N44 : w.heap.size ≤ b41 := n43.eq ▸ E40.size
     have H45 := (e39.blk H22)
     have : b1 < b41 := n43.eq ▸ lt_of_blk H45
     have E46 := qe E40 n43.ext
     refine lw_e (oe_store (v := .agg #[.bool nr23, .slice A24 n25 c26, .bool nr27, .slice A28 n29 c30, .bool nr31, .slice A32 n33 c34]) (vs := [.bool nr23, .slice A24 n25 c26, .bool nr27, .slice A28 n29 c30, .bool nr31, .slice A32 n33 c34]) (l := [.bool nr23, .slice A24 n25 c26, .bool nr27, .slice A28 n29 c30, .bool nr31, .slice A32 n33 c34]) (Z rfl) (Z rfl) sz90 rfl rfl rfl n43.blk rfl ?_)
     intro w47 s48 H49
     have E50 := below_st E46 N44 s48
     refine lw_nil <| rk_seq <| rk_seq <| rk_reg <| lw_v (qi 0) (dv_assign C) <| lw_nil <| rk_block ?_
     have h51 := (((((hO11.ext e14).ext e19).ext e39).ext n43.ext).st s48 n43.blk (by decide))
     have h52 := ((h35.ext n43.ext).st s48 n43.blk (by decide))
     have h53 := ((h36.ext n43.ext).st s48 n43.blk (by decide))
     have h54 := ((h37.ext n43.ext).st s48 n43.blk (by decide))
     have H55 := (s48.blk (n43.ext.blk H45) (by omega))
     refine rk_loop (fun dm_ fr wl => ∃ (i : Nat) (L : List Int) (Ad : Option Addr) (cp : Nat), dm_ = l - i ∧ fr 0 = .slice A l c ∧ fr 4 = .slice none 0 0 ∧ fr 5 = .slice Ad (L.length) cp ∧ fr 6 = .pointer (some ⟨b41, 0, none⟩) ∧ fr 7 = qi (i : Int) ∧ Below w.heap.size w wl ∧ wl.heap[b1]? = some (.cells (qA x y u) 40) ∧ wl.heap[b41]? = some (.cells #[.bool nr23, .slice A24 n25 c26, .bool nr27, .slice A28 n29 c30, .bool nr31, .slice A32 n33 c34] 90) ∧ Ow wl w.heap.size 2 .i64 Ad cp L ∧ Num 32 168 .u32 wl nr23 A24 n25 c26 x 256 ∧ Num 32 168 .u32 wl nr27 A28 n29 c30 y 256 ∧ Num 32 168 .u32 wl nr31 A32 n33 c34 u 256 ∧ (i ≤ l) ∧ (L = stI xs x u i) ∧ (∃ g_, Ad = some ⟨g_, 0, none⟩)) (l - 0) ⟨0, [], (some ⟨b6, 0, none⟩), 0, rfl, rfl, rfl, rfl, rfl, (vi (by omega)), E50, H55, H49, (h51.mono N9), h52, h53, h54, (Nat.zero_le _), rfl, ⟨_, rfl⟩⟩ ?_
     intro d60 fr59 w56 hI57 ih58
     obtain ⟨i, L, Ad, cp, hd73, f61, f62, f63, f64, f65, E66, H67, H68, h69, h70, h71, h72, hi, hL, hg_⟩ := hI57
     obtain ⟨g_, rfl⟩ := hg_
     have hLl : L.length ≤ i := by rw [hL]; exact stI_len ..
     have hVL := stI_V (l := l) hi hL
     have hrg : i < l → (-1000000 ≤ xs.getD (i * 4) 0 ∧ xs.getD (i * 4) 0 ≤ 1000000) ∧ (-1000000 ≤ xs.getD (i * 4 + 1) 0 ∧ xs.getD (i * 4 + 1) 0 ≤ 1000000) ∧ (-1000000 ≤ xs.getD (i * 4 + 2) 0 ∧ xs.getD (i * 4 + 2) 0 ≤ 1000000) ∧ (-1000000 ≤ xs.getD (i * 4 + 3) 0 ∧ xs.getD (i * 4 + 3) 0 ≤ 1000000) := fun h_ => segOk_rg (hsg i h_)
     have lh70 := ql h70
     have lh71 := ql h71
     have lh72 := ql h72
     refine rk_seq <| rk_seq <| rk_reg <| qm (qi (i : Int)) rfl f65 <| qm (.slice A l c) rfl f61 <| lw_v (qi (l : Int)) (dv_len (ad := A) (l := l) (c := c) us64 (Z rfl)) <| lw_v _ (dv_lss (a := (i : Int)) (b := (l : Int)) (Z rfl) (Z rfl)) <| lw_nil ?_
     by_cases hb74 : ((i : Int)) < ((l : Int))
     · refine rk_ct (T rfl (qT hb74)) <| rk_skip <| rk_seq <| rk_block <| rk_seq <| rk_seq ?_
       have h75 := (hx.ext E66)
       refine rk_any (fun w => RdI w .i64 A xs ∧ w.heap[b41]? = some (.cells #[.bool nr23, .slice A24 n25 c26, .bool nr27, .slice A28 n29 c30, .bool nr31, .slice A32 n33 c34] 90)) [] mo ?_
       intro w76 d77
       have E78 := qe E66 d77.ext
       have h79 := (h75.ext d77.ext)
       have H80 := (d77.ext.blk H68)
       refine aw_pure 0 (.slice A l c) rfl (by kernel_rfl) .none ⟨h79, H80⟩ (fun _ => dv_move (T rfl f61)) <| aw_pure 1 (qi (i : Int)) rfl (by kernel_rfl) .none ⟨h79, H80⟩ (fun _ => dv_move (T rfl f65)) ?_
       obtain ⟨g81, o82, rfl⟩ := RdI.at h79 (by first | omega | simp <;> omega)
       refine aw_pure 2 (.pointer (some ⟨g81, o82 + i * 4, none⟩)) rfl (by kernel_rfl) .none ⟨h79, H80⟩ (fun _ => dv_indexM (g := g81) (o := o82) (l := l) (c := c) (i := i) (j := (i : Int)) (m := 4) us64 sz27 (Z rfl) (Z rfl) (by omega) (by first | omega | simp <;> omega)) <| aw_pure 3 (.pointer (some ⟨g81, o82 + (i * 4), none⟩)) rfl (by kernel_rfl) .none ⟨h79, H80⟩ (fun _ => dv_fieldW (g := g81) (o := o82) (i := i * 4) fo27_0 (Z rfl)) <| aw_load 4 (.agg #[qi (xs.getD (i * 4) 0), qi (xs.getD (i * 4 + 1) 0)]) rfl (by kernel_rfl) .none ⟨h79, H80⟩ (fun _ s => dv_loadsI (i := i * 4) (m := 2) (k := .i64) (L := xs) (l := [qi (xs.getD (i * 4) 0), qi (xs.getD (i * 4 + 1) 0)]) agt25 sz25 (Z rfl) s.1 (by first | omega | simp <;> omega) rfl) <| aw_load 6 (.agg #[.bool nr23, .slice A24 n25 c26, .bool nr27, .slice A28 n29 c30, .bool nr31, .slice A32 n33 c34]) rfl (by kernel_rfl) .none ⟨h79, H80⟩ (fun _ s => dv_loads (l := [.bool nr23, .slice A24 n25 c26, .bool nr27, .slice A28 n29 c30, .bool nr31, .slice A32 n33 c34]) agt90 sz90 (T rfl f64) s.2 rfl) <| aw_one 5 rfl (by kernel_rfl) .none (oe_callf (vs := [.agg #[qi (xs.getD (i * 4) 0), qi (xs.getD (i * 4 + 1) 0)]]) co63 (ar1 (Z rfl)) (l3Spot_ok   (by omega) (by omega)) ?_)
       rintro _ w98 ⟨nr83, A84, n85, c86, nr87, A88, n89, c90, nr91, A92, n93, c94, rfl, e99, h95, h96, h97⟩
       have E100 := qe E78 e99
       have lh95 := ql h95
       have lh96 := ql h96
       have lh97 := ql h97
       have h101 := (h79.ext e99)
       have H102 := (e99.blk H80)
       refine ⟨.inr ⟨h101, H102⟩, ?_⟩
       have h103 := ((h70.ext d77.ext).ext e99)
       have h104 := ((h71.ext d77.ext).ext e99)
       have h105 := ((h72.ext d77.ext).ext e99)
       refine aw_one 7 rfl (by kernel_rfl) .none (oe_callf (vs := [.agg #[.bool nr83, .slice A84 n85 c86, .bool nr87, .slice A88 n89 c90, .bool nr91, .slice A92 n93 c94], .agg #[.bool nr23, .slice A24 n25 c26, .bool nr27, .slice A28 n29 c30, .bool nr31, .slice A32 n33 c34]]) co62 (ar2 (Z rfl) (Z rfl)) (l3CmpX_ok h95 h96 h97 h103 h104 h105 (by first | decide | omega) (by first | decide | omega) (by first | decide | omega) (by first | decide | omega) (by first | decide | omega) (by first | decide | omega) ) ?_)
       rintro _ w106 ⟨rfl, e107⟩
       have E108 := qe E100 e107
       have h109 := (h101.ext e107)
       have H110 := (e107.blk H102)
       refine ⟨.inr ⟨h109, H110⟩, ?_⟩
       refine aw_pure 8 (qd (0 < (sgnI (((xs.getD (i * 4) 0)) * u - x * 1)))) rfl (by kernel_rfl) .none ⟨h109, H110⟩ (fun _ => dv_gtr (a := sgnI (((xs.getD (i * 4) 0)) * u - x * 1)) (b := 0) (Z rfl) C) <| aw_pure 9 (qd (0 < (sgnI (((xs.getD (i * 4) 0)) * u - x * 1)))) rfl (by kernel_rfl) .none ⟨h109, H110⟩ (fun _ => dv_move (Z rfl)) ?_
       by_cases hb111 : 0 < (sgnI (((xs.getD (i * 4) 0)) * u - x * 1))
       · refine aw_no 10 rfl (by kernel_rfl) (d := 37) rfl rfl (qT hb111) ⟨h109, H110⟩ <| aw_no 11 rfl (by kernel_rfl) (d := 37) rfl rfl (qT hb111) ⟨h109, H110⟩ <| aw_no 12 rfl (by kernel_rfl) (d := 37) rfl rfl (qT hb111) ⟨h109, H110⟩ <| aw_no 13 rfl (by kernel_rfl) (d := 37) rfl rfl (qT hb111) ⟨h109, H110⟩ <| aw_no 14 rfl (by kernel_rfl) (d := 37) rfl rfl (qT hb111) ⟨h109, H110⟩ <| aw_no 15 rfl (by kernel_rfl) (d := 37) rfl rfl (qT hb111) ⟨h109, H110⟩ <| aw_no 16 rfl (by kernel_rfl) (d := 37) rfl rfl (qT hb111) ⟨h109, H110⟩ <| aw_no 17 rfl (by kernel_rfl) (d := 37) rfl rfl (qT hb111) ⟨h109, H110⟩ <| aw_no 18 rfl (by kernel_rfl) (d := 37) rfl rfl (qT hb111) ⟨h109, H110⟩ <| aw_pure 19 (.bool true) rfl (by kernel_rfl) .none ⟨h109, H110⟩ (fun _ => dv_pick_t (T rfl (qT hb111)) C) <| aw_done (by kernel_rfl) <| rk_ct (Z rfl) <| rk_exit rfl <| rk_reg <| qm (qi (i : Int)) rfl f65 <| lw_v _ (dv_add (a := (i : Int)) (b := 1) (z := (i : Int) + 1) (Z rfl) C (wr_i64 (by omega) (by omega))) <| qs (qi ((i : Int) + 1)) rfl rfl <| lw_nil ?_
         have h112 := (((h69.ext d77.ext).ext e99).ext e107)
         have h113 := (h103.ext e107)
         have h114 := (h104.ext e107)
         have h115 := (h105.ext e107)
         have H116 := (e107.blk (e99.blk (d77.ext.blk H67)))
         exact ih58 (l - (i + 1)) _ _ (by rw [hd73]; omega) ⟨(i + 1), L, (some ⟨g_, 0, none⟩), cp, rfl, f61, f62, f63, f64, (vi (by omega)), E108, H116, H110, h112, h113, h114, h115, (by omega), (by rw [hL]; exact stI_f (by first | exact stS2_f1 (by assumption) | exact stS2_f2 (by assumption))), ⟨_, rfl⟩⟩
       refine aw_load 10 (.agg #[.bool nr23, .slice A24 n25 c26, .bool nr27, .slice A28 n29 c30, .bool nr31, .slice A32 n33 c34]) rfl (by kernel_rfl) (.yes (d := 37) rfl rfl (qF hb111)) ⟨h109, H110⟩ (fun _ s => dv_loads (l := [.bool nr23, .slice A24 n25 c26, .bool nr27, .slice A28 n29 c30, .bool nr31, .slice A32 n33 c34]) agt90 sz90 (T rfl f64) s.2 rfl) <| aw_pure 11 (.slice (some ⟨g81, o82, none⟩) l c) rfl (by kernel_rfl) (.yes (d := 37) rfl rfl (qF hb111)) ⟨h109, H110⟩ (fun _ => dv_move (T rfl f61)) <| aw_pure 12 (qi (i : Int)) rfl (by kernel_rfl) (.yes (d := 37) rfl rfl (qF hb111)) ⟨h109, H110⟩ (fun _ => dv_move (T rfl f65)) <| aw_pure 13 (.pointer (some ⟨g81, o82 + i * 4, none⟩)) rfl (by kernel_rfl) (.yes (d := 37) rfl rfl (qF hb111)) ⟨h109, H110⟩ (fun _ => dv_indexM (g := g81) (o := o82) (l := l) (c := c) (i := i) (j := (i : Int)) (m := 4) us64 sz27 (Z rfl) (Z rfl) (by omega) (by first | omega | simp <;> omega)) <| aw_pure 14 (.pointer (some ⟨g81, o82 + (i * 4 + 2), none⟩)) rfl (by kernel_rfl) (.yes (d := 37) rfl rfl (qF hb111)) ⟨h109, H110⟩ (fun _ => dv_fieldW (g := g81) (o := o82) (i := i * 4) fo27_1 (Z rfl)) <| aw_load 15 (.agg #[qi (xs.getD (i * 4 + 2) 0), qi (xs.getD (i * 4 + 3) 0)]) rfl (by kernel_rfl) (.yes (d := 37) rfl rfl (qF hb111)) ⟨h109, H110⟩ (fun _ s => dv_loadsI (i := i * 4 + 2) (m := 2) (k := .i64) (L := xs) (l := [qi (xs.getD (i * 4 + 2) 0), qi (xs.getD (i * 4 + 3) 0)]) agt25 sz25 (Z rfl) s.1 (by first | omega | simp <;> omega) rfl) <| aw_one 16 rfl (by kernel_rfl) (.yes (d := 37) rfl rfl (qF hb111)) (oe_callf (vs := [.agg #[qi (xs.getD (i * 4 + 2) 0), qi (xs.getD (i * 4 + 3) 0)]]) co63 (ar1 (Z rfl)) (l3Spot_ok   (by omega) (by omega)) ?_)
       rintro _ w132 ⟨nr117, A118, n119, c120, nr121, A122, n123, c124, nr125, A126, n127, c128, rfl, e133, h129, h130, h131⟩
       have E134 := qe E108 e133
       have lh129 := ql h129
       have lh130 := ql h130
       have lh131 := ql h131
       have h135 := (h109.ext e133)
       have H136 := (e133.blk H110)
       refine ⟨.inr ⟨h135, H136⟩, ?_⟩
       have h137 := ((h103.ext e107).ext e133)
       have h138 := ((h104.ext e107).ext e133)
       have h139 := ((h105.ext e107).ext e133)
       refine aw_one 17 rfl (by kernel_rfl) (.yes (d := 37) rfl rfl (qF hb111)) (oe_callf (vs := [.agg #[.bool nr23, .slice A24 n25 c26, .bool nr27, .slice A28 n29 c30, .bool nr31, .slice A32 n33 c34], .agg #[.bool nr117, .slice A118 n119 c120, .bool nr121, .slice A122 n123 c124, .bool nr125, .slice A126 n127 c128]]) co62 (ar2 (Z rfl) (Z rfl)) (l3CmpX_ok h137 h138 h139 h129 h130 h131 (by first | decide | omega) (by first | decide | omega) (by first | decide | omega) (by first | decide | omega) (by first | decide | omega) (by first | decide | omega) ) ?_)
       rintro _ w140 ⟨rfl, e141⟩
       have E142 := qe E134 e141
       have h143 := (h135.ext e141)
       have H144 := (e141.blk H136)
       refine ⟨.inr ⟨h143, H144⟩, ?_⟩
       refine aw_pure 18 (qd (0 ≤ (sgnI (x * 1 - ((xs.getD (i * 4 + 2) 0)) * u)))) rfl (by kernel_rfl) (.yes (d := 37) rfl rfl (qF hb111)) ⟨h143, H144⟩ (fun _ => dv_geq (a := sgnI (x * 1 - ((xs.getD (i * 4 + 2) 0)) * u)) (b := 0) (Z rfl) C) <| aw_pure 19 (qd (0 ≤ (sgnI (x * 1 - ((xs.getD (i * 4 + 2) 0)) * u)))) rfl (by kernel_rfl) .none ⟨h143, H144⟩ (fun _ => dv_pick_f (T rfl (qF hb111)) (Z rfl)) <| aw_done (by kernel_rfl) ?_
       by_cases hb145 : 0 ≤ (sgnI (x * 1 - ((xs.getD (i * 4 + 2) 0)) * u))
       · refine rk_ct (T rfl (qT hb145)) <| rk_exit rfl <| rk_reg <| qm (qi (i : Int)) rfl f65 <| lw_v _ (dv_add (a := (i : Int)) (b := 1) (z := (i : Int) + 1) (Z rfl) C (wr_i64 (by omega) (by omega))) <| qs (qi ((i : Int) + 1)) rfl rfl <| lw_nil ?_
         have h146 := (((((h69.ext d77.ext).ext e99).ext e107).ext e133).ext e141)
         have h147 := (h137.ext e141)
         have h148 := (h138.ext e141)
         have h149 := (h139.ext e141)
         have H150 := (e141.blk (e133.blk (e107.blk (e99.blk (d77.ext.blk H67)))))
         exact ih58 (l - (i + 1)) _ _ (by rw [hd73]; omega) ⟨(i + 1), L, (some ⟨g_, 0, none⟩), cp, rfl, f61, f62, f63, f64, (vi (by omega)), E142, H150, H144, h146, h147, h148, h149, (by omega), (by rw [hL]; exact stI_f (by first | exact stS2_f1 (by assumption) | exact stS2_f2 (by assumption))), ⟨_, rfl⟩⟩
       refine rk_cf (T rfl (qF hb145)) <| rk_skip <| rk_seq <| rk_reg <| lw_v (qi 0) (dv_assign C) <| lw_nil <| rk_seq ?_
       have hSi : stS xs x u i := stS2_t (by assumption) (by assumption)
       have hVi : stV l xs x u (i : Int) := ⟨i, rfl, by omega, hSi⟩
       refine rk_join (fun fr wl => ∃ (t : Nat), fr 0 = .slice (some ⟨g81, o82, none⟩) l c ∧ fr 4 = .slice none 0 0 ∧ fr 5 = .slice (some ⟨g_, 0, none⟩) (L.length) cp ∧ fr 6 = .pointer (some ⟨b41, 0, none⟩) ∧ fr 7 = qi (i : Int) ∧ fr 8 = qi (t : Int) ∧ fr 22 = qi (i : Int) ∧ fr 23 = .slice (some ⟨g81, o82, none⟩) l c ∧ fr 24 = qi (l : Int) ∧ fr 25 = qd ((i : Int) < (l : Int)) ∧ fr 28 = .slice (some ⟨g81, o82, none⟩) l c ∧ fr 29 = qi (i : Int) ∧ fr 30 = .pointer (some ⟨g81, o82 + i * 4, none⟩) ∧ fr 31 = .pointer (some ⟨g81, o82 + (i * 4), none⟩) ∧ fr 32 = .agg #[qi (xs.getD (i * 4) 0), qi (xs.getD (i * 4 + 1) 0)] ∧ fr 33 = .agg #[.bool nr83, .slice A84 n85 c86, .bool nr87, .slice A88 n89 c90, .bool nr91, .slice A92 n93 c94] ∧ fr 34 = .agg #[.bool nr23, .slice A24 n25 c26, .bool nr27, .slice A28 n29 c30, .bool nr31, .slice A32 n33 c34] ∧ fr 35 = qi (sgnI (((xs.getD (i * 4) 0)) * u - x * 1)) ∧ fr 36 = qd (0 < (sgnI (((xs.getD (i * 4) 0)) * u - x * 1))) ∧ fr 37 = qd (0 < (sgnI (((xs.getD (i * 4) 0)) * u - x * 1))) ∧ fr 38 = .agg #[.bool nr23, .slice A24 n25 c26, .bool nr27, .slice A28 n29 c30, .bool nr31, .slice A32 n33 c34] ∧ fr 39 = .slice (some ⟨g81, o82, none⟩) l c ∧ fr 40 = qi (i : Int) ∧ fr 41 = .pointer (some ⟨g81, o82 + i * 4, none⟩) ∧ fr 42 = .pointer (some ⟨g81, o82 + (i * 4 + 2), none⟩) ∧ fr 43 = .agg #[qi (xs.getD (i * 4 + 2) 0), qi (xs.getD (i * 4 + 3) 0)] ∧ fr 44 = .agg #[.bool nr117, .slice A118 n119 c120, .bool nr121, .slice A122 n123 c124, .bool nr125, .slice A126 n127 c128] ∧ fr 45 = qi (sgnI (x * 1 - ((xs.getD (i * 4 + 2) 0)) * u)) ∧ fr 46 = qd (0 ≤ (sgnI (x * 1 - ((xs.getD (i * 4 + 2) 0)) * u))) ∧ fr 47 = qd (0 ≤ (sgnI (x * 1 - ((xs.getD (i * 4 + 2) 0)) * u))) ∧ Below w.heap.size w wl ∧ wl.heap[b1]? = some (.cells (qA x y u) 40) ∧ wl.heap[b41]? = some (.cells #[.bool nr23, .slice A24 n25 c26, .bool nr27, .slice A28 n29 c30, .bool nr31, .slice A32 n33 c34] 90) ∧ Ow wl w.heap.size 2 .i64 (some ⟨g_, 0, none⟩) cp L ∧ Num 32 168 .u32 wl nr23 A24 n25 c26 x 256 ∧ Num 32 168 .u32 wl nr27 A28 n29 c30 y 256 ∧ Num 32 168 .u32 wl nr31 A32 n33 c34 u 256 ∧ (t ≤ L.length) ∧ (∀ q, q < t → cfV xs x u (L.getD q 0) (i : Int) < 0) ∧ (t = L.length ∨ ¬ cfV xs x u (L.getD t 0) (i : Int) < 0)) ?_ (fun hj153 => ?_)
       · intro fr154 w151 hI152
         obtain ⟨t, f155, f156, f157, f158, f159, f160, f161, f162, f163, f164, f165, f166, f167, f168, f169, f170, f171, f172, f173, f174, f175, f176, f177, f178, f179, f180, f181, f182, f183, f184, E185, H186, H187, h188, h189, h190, h191, ht1, ht2, ht3⟩ := hI152
         refine rk_seq ?_
         have := lt_of_blk H186
         have := lt_of_blk H187
         have lt_ := h188.lt
         have hcp_ := h188.cap; have lt2_ := lt_ _ _ rfl
         refine rk_reg <| lw_e (oe_buildSlice0 us50 sz2 ?_)
         intro b192 w193 n194
         have N195 : w.heap.size ≤ b192 := n194.eq ▸ E185.size
         have : b41 < b192 := n194.eq ▸ lt_of_blk H187
         have := n194.eq; have := n194.size
         have := Below.fresh n194.ext
         have E196 := qe E185 n194.ext
         have hO197 := Ow.made (T := 2) (k := .i64) (z := .int .i64 0) (c := 0) n194 (by decide)
         refine qm (.slice (some ⟨g_, 0, none⟩) (L.length) cp) rfl f157 <| qm (qi (t : Int)) rfl f160 <| lw_v (.slice (some ⟨g_, 0, none⟩) t cp) (dv_sliceH (ad := (some ⟨g_, 0, none⟩)) (l := L.length) (c := cp) (i := t) (j := (t : Int)) us50 sz2 (Z rfl) (Z rfl) (by omega) (by omega)) ?_
         have h198 := (h188.ext n194.ext)
         refine lw_e (oe_appendO (base := b192) (L := ([] : List Int)) (M := (L.take t)) (m := t) us50 in2 (Z rfl) (Z rfl) hO197 ⟨_, _, rfl⟩ h198.rdTake (by simp only [List.length_take]; omega) (by simp only [List.length_append, List.length_take, List.length_singleton, List.length_nil]; omega) (by simp only [List.length_append, List.length_take, List.length_singleton, List.length_nil]; omega) ?_)
         intro Ae199 c200 w201 hO202 x203 bt204
         have E205 := below_bl E196 N195 x203
         have := x203.size
         refine qs (.slice Ae199 ((([] : List Int) ++ (L.take t)).length) c200) rfl rfl <| qN <| qm (.slice Ae199 ((([] : List Int) ++ (L.take t)).length) c200) rfl rfl <| qm (qi (i : Int)) rfl f159 <| lw_e (oe_buildSlice (pv := [(0, qi (i : Int))]) (init := [qi 0]) (l := [qi (i : Int)]) us50 sz2 rfl rfl zc2 (by kernel_rfl) ⟨rfl, (Z rfl), trivial⟩ rfl ?_)
         intro b206 w207 n208
         have N209 : w.heap.size ≤ b206 := n208.eq ▸ E205.size
         have H210 := (bl_blk x203 (n194.ext.blk H187) (by omega))
         have : b41 < b206 := n208.eq ▸ lt_of_blk H210
         have := n208.eq; have := n208.size
         have := Below.fresh n208.ext
         have E211 := qe E205 n208.ext
         have h212 := (hO202.ext n208.ext)
         refine lw_e (oe_appendT (base := b192) (L := (([] : List Int) ++ (L.take t))) (M := [(i : Int)]) (m := 1) us50 in2 (Z rfl) (Z rfl) h212 (Wd.ownW (xs := [(i : Int)]) n208.blk) rfl (by first | omega | simp <;> omega) (by first | omega | simp <;> omega) ?_)
         intro Ad214 c215 w216 hO217 x218 bt213
         have E219 := below_bl E211 N195 x218
         refine qs (.slice Ad214 (((([] : List Int) ++ (L.take t)) ++ [(i : Int)]).length) c215) rfl rfl <| lw_nil <| rk_reg <| qm (.slice Ad214 (((([] : List Int) ++ (L.take t)) ++ [(i : Int)]).length) c215) rfl rfl <| qm (.slice (some ⟨g_, 0, none⟩) (L.length) cp) rfl f157 <| qm (qi (t : Int)) rfl f160 <| lw_v (.slice ((slA1 (some ⟨g_, 0, none⟩) t cp)) (L.length - t) (cp - t)) (dv_sliceL1 (l := L.length) (c := cp) (i := t) (j := (t : Int)) us50 sz2 (Z rfl) (Z rfl) (by omega) (by omega)) ?_
         have h220 := (((h198.bl x203 (fun g_ o_ h_ => by have := lt_ g_ o_ h_; omega)).ext n208.ext).bl x218 (fun g_ o_ h_ => by have := lt_ g_ o_ h_; omega))
         refine lw_e (oe_appendO (base := b192) (L := ((([] : List Int) ++ (L.take t)) ++ [(i : Int)])) (M := (L.drop t)) (m := L.length - t) us50 in2 (Z rfl) (Z rfl) hO217 (slA1_at.elim fun o_ h_ => ⟨_, o_, h_⟩) (h220.rdDrop (by omega)) (by rw [List.length_drop]) (by simp only [List.length_append, List.length_take, List.length_singleton, List.length_nil]; omega) (by simp only [List.length_append, List.length_take, List.length_singleton, List.length_nil]; omega) ?_)
         intro Ae221 c222 w223 hO224 x225 bt226
         have E227 := below_bl E219 N195 x225
         have := x225.size
         refine qs (.slice Ae221 ((((([] : List Int) ++ (L.take t)) ++ [(i : Int)]) ++ (L.drop t)).length) c222) rfl rfl <| lw_nil <| rk_inBlock <| rk_reg <| qm (qi (i : Int)) rfl f159 <| lw_v _ (dv_add (a := (i : Int)) (b := 1) (z := (i : Int) + 1) (Z rfl) C (wr_i64 (by omega) (by omega))) <| qs (qi ((i : Int) + 1)) rfl rfl <| lw_nil ?_
         have h228 := (((((h189.ext n194.ext).bt bt204 (by decide)).ext n208.ext).bt bt213 (by decide)).bt bt226 (by decide))
         have h229 := (((((h190.ext n194.ext).bt bt204 (by decide)).ext n208.ext).bt bt213 (by decide)).bt bt226 (by decide))
         have h230 := (((((h191.ext n194.ext).bt bt204 (by decide)).ext n208.ext).bt bt213 (by decide)).bt bt226 (by decide))
         have H231 := (bl_blk x225 (bl_blk x218 (n208.ext.blk (bl_blk x203 (n194.ext.blk H186) (by omega))) (by omega)) (by omega))
         have H232 := (bl_blk x225 (bl_blk x218 (n208.ext.blk H210) (by omega)) (by omega))
         exact ih58 (l - (i + 1)) _ _ (by rw [hd73]; omega) ⟨(i + 1), (((([] : List Int) ++ (L.take t)) ++ [(i : Int)]) ++ (L.drop t)), Ae221, c222, rfl, f155, f156, rfl, f158, (vi (by omega)), E227, H231, H232, (hO224.mono N195), h228, h229, h230, (by omega), (stI_step hL hSi ht1 ht2 ht3), (by obtain ⟨g2_, h2_, _⟩ := Ow.some_of hO224 (by simp only [List.length_append, List.length_singleton]; omega); exact ⟨g2_, h2_⟩)⟩
       refine rk_block ?_
       have h233 := (((((h69.ext d77.ext).ext e99).ext e107).ext e133).ext e141)
       have h234 := (h137.ext e141)
       have h235 := (h138.ext e141)
       have h236 := (h139.ext e141)
       have H237 := (e141.blk (e133.blk (e107.blk (e99.blk (d77.ext.blk H67)))))
       refine rk_loop (fun dm_ fr wl => ∃ (t : Nat), dm_ = L.length - t ∧ fr 0 = .slice (some ⟨g81, o82, none⟩) l c ∧ fr 4 = .slice none 0 0 ∧ fr 5 = .slice (some ⟨g_, 0, none⟩) (L.length) cp ∧ fr 6 = .pointer (some ⟨b41, 0, none⟩) ∧ fr 7 = qi (i : Int) ∧ fr 8 = qi (t : Int) ∧ fr 22 = qi (i : Int) ∧ fr 23 = .slice (some ⟨g81, o82, none⟩) l c ∧ fr 24 = qi (l : Int) ∧ fr 25 = qd ((i : Int) < (l : Int)) ∧ fr 28 = .slice (some ⟨g81, o82, none⟩) l c ∧ fr 29 = qi (i : Int) ∧ fr 30 = .pointer (some ⟨g81, o82 + i * 4, none⟩) ∧ fr 31 = .pointer (some ⟨g81, o82 + (i * 4), none⟩) ∧ fr 32 = .agg #[qi (xs.getD (i * 4) 0), qi (xs.getD (i * 4 + 1) 0)] ∧ fr 33 = .agg #[.bool nr83, .slice A84 n85 c86, .bool nr87, .slice A88 n89 c90, .bool nr91, .slice A92 n93 c94] ∧ fr 34 = .agg #[.bool nr23, .slice A24 n25 c26, .bool nr27, .slice A28 n29 c30, .bool nr31, .slice A32 n33 c34] ∧ fr 35 = qi (sgnI (((xs.getD (i * 4) 0)) * u - x * 1)) ∧ fr 36 = qd (0 < (sgnI (((xs.getD (i * 4) 0)) * u - x * 1))) ∧ fr 37 = qd (0 < (sgnI (((xs.getD (i * 4) 0)) * u - x * 1))) ∧ fr 38 = .agg #[.bool nr23, .slice A24 n25 c26, .bool nr27, .slice A28 n29 c30, .bool nr31, .slice A32 n33 c34] ∧ fr 39 = .slice (some ⟨g81, o82, none⟩) l c ∧ fr 40 = qi (i : Int) ∧ fr 41 = .pointer (some ⟨g81, o82 + i * 4, none⟩) ∧ fr 42 = .pointer (some ⟨g81, o82 + (i * 4 + 2), none⟩) ∧ fr 43 = .agg #[qi (xs.getD (i * 4 + 2) 0), qi (xs.getD (i * 4 + 3) 0)] ∧ fr 44 = .agg #[.bool nr117, .slice A118 n119 c120, .bool nr121, .slice A122 n123 c124, .bool nr125, .slice A126 n127 c128] ∧ fr 45 = qi (sgnI (x * 1 - ((xs.getD (i * 4 + 2) 0)) * u)) ∧ fr 46 = qd (0 ≤ (sgnI (x * 1 - ((xs.getD (i * 4 + 2) 0)) * u))) ∧ fr 47 = qd (0 ≤ (sgnI (x * 1 - ((xs.getD (i * 4 + 2) 0)) * u))) ∧ Below w.heap.size w wl ∧ wl.heap[b1]? = some (.cells (qA x y u) 40) ∧ wl.heap[b41]? = some (.cells #[.bool nr23, .slice A24 n25 c26, .bool nr27, .slice A28 n29 c30, .bool nr31, .slice A32 n33 c34] 90) ∧ Ow wl w.heap.size 2 .i64 (some ⟨g_, 0, none⟩) cp L ∧ Num 32 168 .u32 wl nr23 A24 n25 c26 x 256 ∧ Num 32 168 .u32 wl nr27 A28 n29 c30 y 256 ∧ Num 32 168 .u32 wl nr31 A32 n33 c34 u 256 ∧ (t ≤ L.length) ∧ (∀ q, q < t → cfV xs x u (L.getD q 0) (i : Int) < 0)) (L.length - 0) ⟨0, rfl, f61, f62, f63, f64, f65, (vi (by omega)), rfl, rfl, rfl, rfl, rfl, rfl, rfl, rfl, rfl, rfl, rfl, rfl, rfl, rfl, rfl, rfl, rfl, rfl, rfl, rfl, rfl, rfl, rfl, rfl, E142, H237, H144, h233, h234, h235, h236, (Nat.zero_le _), (fun q h_ => absurd h_ (by omega))⟩ ?_
       intro d242 fr241 w238 hI239 ih240
       obtain ⟨t, hd280, f243, f244, f245, f246, f247, f248, f249, f250, f251, f252, f253, f254, f255, f256, f257, f258, f259, f260, f261, f262, f263, f264, f265, f266, f267, f268, f269, f270, f271, f272, E273, H274, H275, h276, h277, h278, h279, ht1, ht2⟩ := hI239
       have hrt : t < L.length → 0 ≤ L.getD t 0 ∧ L.getD t 0 < (l : Int) := fun h_ => stV_rg (hVL t h_)
       have lh277 := ql h277
       have lh278 := ql h278
       have lh279 := ql h279
       refine rk_seq <| rk_seq <| rk_any (fun w => Wd w 2 .i64 (some ⟨g_, 0, none⟩) L ∧ w.heap[b41]? = some (.cells #[.bool nr23, .slice A24 n25 c26, .bool nr27, .slice A28 n29 c30, .bool nr31, .slice A32 n33 c34] 90)) [] mo ?_
       intro w281 d282
       have E283 := qe E273 d282.ext
       have h284 := (h276.ext d282.ext)
       have H285 := (d282.ext.blk H275)
       refine aw_pure 0 (qi (t : Int)) rfl (by kernel_rfl) .none ⟨h284.wd, H285⟩ (fun _ => dv_move (T rfl f248)) <| aw_pure 1 (.slice (some ⟨g_, 0, none⟩) (L.length) cp) rfl (by kernel_rfl) .none ⟨h284.wd, H285⟩ (fun _ => dv_move (T rfl f245)) <| aw_pure 2 (qi (L.length : Int)) rfl (by kernel_rfl) .none ⟨h284.wd, H285⟩ (fun _ => dv_len (ad := (some ⟨g_, 0, none⟩)) (l := L.length) (c := cp) us50 (Z rfl)) <| aw_pure 3 (qd ((t : Int) < (L.length : Int))) rfl (by kernel_rfl) .none ⟨h284.wd, H285⟩ (fun _ => dv_lss (a := (t : Int)) (b := (L.length : Int)) (Z rfl) (Z rfl)) <| aw_pure 4 (qd ((t : Int) < (L.length : Int))) rfl (by kernel_rfl) .none ⟨h284.wd, H285⟩ (fun _ => dv_move (Z rfl)) ?_
       by_cases hb286 : ((t : Int)) < ((L.length : Int))
       · refine aw_pure 5 (.slice (some ⟨g81, o82, none⟩) l c) rfl (by kernel_rfl) (.yes (d := 52) rfl rfl (qT hb286)) ⟨h284.wd, H285⟩ (fun _ => dv_move (T rfl f243)) <| aw_pure 6 (.slice (some ⟨g_, 0, none⟩) (L.length) cp) rfl (by kernel_rfl) (.yes (d := 52) rfl rfl (qT hb286)) ⟨h284.wd, H285⟩ (fun _ => dv_move (T rfl f245)) <| aw_pure 7 (qi (t : Int)) rfl (by kernel_rfl) (.yes (d := 52) rfl rfl (qT hb286)) ⟨h284.wd, H285⟩ (fun _ => dv_move (T rfl f248)) <| aw_pure 8 (.pointer (some ⟨g_, 0 + t, none⟩)) rfl (by kernel_rfl) (.yes (d := 52) rfl rfl (qT hb286)) ⟨h284.wd, H285⟩ (fun _ => dv_indexW (g := g_) (o := 0) (l := L.length) (c := cp) (i := t) (j := (t : Int)) us50 sz2 (Z rfl) (Z rfl) (by omega) (by first | omega | simp <;> omega)) <| aw_load 9 (qi (L.getD t 0)) rfl (by kernel_rfl) (.yes (d := 52) rfl rfl (qT hb286)) ⟨h284.wd, H285⟩ (fun _ s => dv_load agt2 (Z rfl) (Wd.cell s.1 (by first | omega | simp <;> omega))) <| aw_pure 10 (qi (i : Int)) rfl (by kernel_rfl) (.yes (d := 52) rfl rfl (qT hb286)) ⟨h284.wd, H285⟩ (fun _ => dv_move (T rfl f247)) <| aw_load 11 (.agg #[.bool nr23, .slice A24 n25 c26, .bool nr27, .slice A28 n29 c30, .bool nr31, .slice A32 n33 c34]) rfl (by kernel_rfl) (.yes (d := 52) rfl rfl (qT hb286)) ⟨h284.wd, H285⟩ (fun _ s => dv_loads (l := [.bool nr23, .slice A24 n25 c26, .bool nr27, .slice A28 n29 c30, .bool nr31, .slice A32 n33 c34]) agt90 sz90 (T rfl f246) s.2 rfl) ?_
         have h287 := ((hx.ext E273).ext d282.ext)
         have h288 := (h277.ext d282.ext)
         have h289 := (h278.ext d282.ext)
         have h290 := (h279.ext d282.ext)
         refine aw_one 12 rfl (by kernel_rfl) (.yes (d := 52) rfl rfl (qT hb286)) (oe_callf (vs := [.slice (some ⟨g81, o82, none⟩) l c, qi (L.getD t 0), qi (i : Int), .agg #[.bool nr23, .slice A24 n25 c26, .bool nr27, .slice A28 n29 c30, .bool nr31, .slice A32 n33 c34]]) co64 (ar4 (Z rfl) (Z rfl) (Z rfl) (Z rfl)) (l7Below_c (l := l) (c := c) h287 (by first | omega | simp <;> omega) (by omega) h288 h289 h290 hsg h40_ hu0 (hVL t (by omega)) hVi) ?_)
         rintro _ w291 ⟨rfl, e292⟩
         have E293 := qe E283 e292
         have h294 := (h284.ext e292)
         have H295 := (e292.blk H285)
         refine ⟨.inr ⟨h294.wd, H295⟩, ?_⟩
         refine aw_pure 13 (qd (cfV xs x u (L.getD t 0) (i : Int) < 0)) rfl (by kernel_rfl) .none ⟨h294.wd, H295⟩ (fun _ => dv_pick_t (T rfl (qT hb286)) (Z rfl)) <| aw_done (by kernel_rfl) ?_
         by_cases hb296 : cfV xs x u (L.getD t 0) ((i : Int)) < 0
         · refine rk_ct (T rfl (qT hb296)) <| rk_skip <| rk_block <| rk_reg <| qm (qi (t : Int)) rfl f248 <| lw_v _ (dv_add (a := (t : Int)) (b := 1) (z := (t : Int) + 1) (Z rfl) C (wr_i64 (by omega) (by omega))) <| qs (qi ((t : Int) + 1)) rfl rfl <| lw_nil <| rk_inBlock ?_
           have h297 := (h288.ext e292)
           have h298 := (h289.ext e292)
           have h299 := (h290.ext e292)
           have H300 := (e292.blk (d282.ext.blk H274))
           exact ih240 (L.length - (t + 1)) _ _ (by rw [hd280]; omega) ⟨(t + 1), rfl, f243, f244, f245, f246, f247, (vi (by omega)), f249, f250, f251, f252, f253, f254, f255, f256, f257, f258, f259, f260, f261, f262, f263, f264, f265, f266, f267, f268, f269, f270, f271, f272, E293, H300, H295, h294, h297, h298, h299, (by omega), (all_step ht2 (by assumption))⟩
         refine rk_cf (T rfl (qF hb296)) <| rk_exit rfl ?_
         have h301 := (h288.ext e292)
         have h302 := (h289.ext e292)
         have h303 := (h290.ext e292)
         have H304 := (e292.blk (d282.ext.blk H274))
         exact hj153 _ _ ⟨t, f243, f244, f245, f246, f247, (f248.trans (vi (by omega))), f249, f250, f251, f252, f253, f254, f255, f256, f257, f258, f259, f260, f261, f262, f263, f264, f265, f266, f267, f268, f269, f270, f271, f272, E293, H304, H295, h294, h301, h302, h303, ht1, ht2, (by first | exact .inl (by omega) | exact .inr (by assumption))⟩
       refine aw_no 5 rfl (by kernel_rfl) (d := 52) rfl rfl (qF hb286) ⟨h284.wd, H285⟩ <| aw_no 6 rfl (by kernel_rfl) (d := 52) rfl rfl (qF hb286) ⟨h284.wd, H285⟩ <| aw_no 7 rfl (by kernel_rfl) (d := 52) rfl rfl (qF hb286) ⟨h284.wd, H285⟩ <| aw_no 8 rfl (by kernel_rfl) (d := 52) rfl rfl (qF hb286) ⟨h284.wd, H285⟩ <| aw_no 9 rfl (by kernel_rfl) (d := 52) rfl rfl (qF hb286) ⟨h284.wd, H285⟩ <| aw_no 10 rfl (by kernel_rfl) (d := 52) rfl rfl (qF hb286) ⟨h284.wd, H285⟩ <| aw_no 11 rfl (by kernel_rfl) (d := 52) rfl rfl (qF hb286) ⟨h284.wd, H285⟩ <| aw_no 12 rfl (by kernel_rfl) (d := 52) rfl rfl (qF hb286) ⟨h284.wd, H285⟩ <| aw_pure 13 (.bool false) rfl (by kernel_rfl) .none ⟨h284.wd, H285⟩ (fun _ => dv_pick_f (T rfl (qF hb286)) C) <| aw_done (by kernel_rfl) <| rk_cf (Z rfl) <| rk_exit rfl ?_
       have h305 := (h277.ext d282.ext)
       have h306 := (h278.ext d282.ext)
       have h307 := (h279.ext d282.ext)
       have H308 := (d282.ext.blk H274)
       exact hj153 _ _ ⟨t, f243, f244, f245, f246, f247, (f248.trans (vi (by omega))), f249, f250, f251, f252, f253, f254, f255, f256, f257, f258, f259, f260, f261, f262, f263, f264, f265, f266, f267, f268, f269, f270, f271, f272, E283, H308, H285, h284, h305, h306, h307, ht1, ht2, (by first | exact .inl (by omega) | exact .inr (by assumption))⟩
     refine rk_cf (T rfl (qF hb74)) <| rk_exit rfl <| rk_seq <| rk_reg <| qm (.slice (some ⟨g_, 0, none⟩) (L.length) cp) rfl f63 <| qs (.slice (some ⟨g_, 0, none⟩) (L.length) cp) rfl rfl <| lw_nil <| rk_ret Try.func28 (v := .slice (some ⟨g_, 0, none⟩) (L.length) cp) (res1 Try.results28 (rv_tmp rfl rfl)) ⟨_, rfl, ?_⟩
     obtain rfl : i = l := by omega
     rw [stR_t (show (i ≤ 40 ∧ segsOk i xs) ∧ pOk x y u from ⟨by assumption, by assumption⟩), ← hL]
     exact ⟨_, _, rfl, E66, h69⟩
   refine rk_ct (T rfl (qT hb21)) <| rk_seq <| rk_reg <| qm (.slice (some ⟨b6, 0, none⟩) (([] : List Int).length) 0) rfl rfl <| qs (.slice (some ⟨b6, 0, none⟩) (([] : List Int).length) 0) rfl rfl <| lw_nil <| rk_ret Try.func28 (v := .slice (some ⟨b6, 0, none⟩) (([] : List Int).length) 0) (res1 Try.results28 (rv_tmp rfl rfl)) ⟨_, rfl, ?_⟩
   have hS : ¬ ((l ≤ 40 ∧ segsOk l xs) ∧ pOk x y u) := by intro hh; first | exact absurd hh.1 (by assumption) | exact absurd hh.2 (by assumption)
   rw [stR_f hS]
   have h309 := ((hO11.ext e14).ext e19)
   exact ⟨(some ⟨b6, 0, none⟩), 0, rfl, E20, h309.mono N9⟩
 refine lw_no (d := 14) rfl rfl (qT hb16) <| lw_no (d := 14) rfl rfl (qT hb16) <| lw_no (d := 14) rfl rfl (qT hb16) <| lw_v (.bool true) (dv_pick_t (T rfl (qT hb16)) C) <| lw_nil <| rk_ct (Z rfl) <| rk_seq <| rk_reg <| qm (.slice (some ⟨b6, 0, none⟩) (([] : List Int).length) 0) rfl rfl <| qs (.slice (some ⟨b6, 0, none⟩) (([] : List Int).length) 0) rfl rfl <| lw_nil <| rk_ret Try.func28 (v := .slice (some ⟨b6, 0, none⟩) (([] : List Int).length) 0) (res1 Try.results28 (rv_tmp rfl rfl)) ⟨_, rfl, ?_⟩
 have hS : ¬ ((l ≤ 40 ∧ segsOk l xs) ∧ pOk x y u) := by intro hh; first | exact absurd hh.1 (by assumption) | exact absurd hh.2 (by assumption)
 rw [stR_f hS]
 have h310 := (hO11.ext e14)
 exact ⟨(some ⟨b6, 0, none⟩), 0, rfl, E15, h310.mono N9⟩
theorem co55 : callOk Try.prog 55 = true := by kernel_rfl
theorem co67 : callOk Try.prog 67 = true := by kernel_rfl
theorem co75 : callOk Try.prog 75 = true := by kernel_rfl
theorem sz116 : sizeB Try.prog 116 = some 1 := by kernel_rfl
theorem ze116 : zeroB Try.prog 116 = some #[.nilFunc] := by kernel_rfl
set_option maxRecDepth 100000 in
set_option maxHeartbeats 8000000 in
theorem iStatusAt_ok {w : World} {x y u : Int} {A : Option Addr} {l c : Nat} {xs : List Int} (hx : RdI w .i64 A xs) (hxl : xs.length = l * 4) (hxb : l ≤ 1048576) (fx_ : fits x) (fy_ : fits y) (fu_ : fits u) : Ct Try.prog 31 [.slice A l c, .agg #[.int .u64 (wv3 x), .int .u64 (wv2 x), .int .u64 (wv1 x), .int .u64 (wv0 x), .int .u64 (wv3 y), .int .u64 (wv2 y), .int .u64 (wv1 y), .int .u64 (wv0 y), .int .u64 (wv3 u), .int .u64 (wv2 u), .int .u64 (wv1 u), .int .u64 (wv0 u)]] w fun v w1 => ∃ Ad cp, v = .slice Ad (stR l xs x y u).length cp ∧ Ext w w1 ∧ Ow w1 w.heap.size 2 .i64 Ad cp (stR l xs x y u) := by
 refine ct_run (n := 71) Try.func31 rfl Try.ntmps31 rfl ?_
 have E0 : Below w.heap.size w w := Below.refl _ _
 refine rk_seq <| rk_reg <| lw_e (oe_box (v := .slice A l c) (cs := #[.slice A l c]) (Z rfl) rfl ?_)
 intro b1 w2 n3
 have N4 : w.heap.size ≤ b1 := n3.eq ▸ E0.size
 have E5 := qe E0 n3.ext
 refine lw_e (oe_box (v := .agg (qA x y u)) (cs := (qA x y u)) (Z rfl) rfl ?_)
 intro b6 w7 n8
 have N9 : w.heap.size ≤ b6 := n8.eq ▸ E5.size
 have : b1 < b6 := n8.eq ▸ lt_of_blk n3.blk
 have E10 := qe E5 n8.ext
 refine lw_v (.slice none 0 0) (dv_assign C) <| lw_nil <| rk_seq <| rk_seq <| rk_reg ?_
 have H11 := (n8.ext.blk n3.blk)
 refine lw_v (.slice A l c) (dv_load1 (b := b1) (o := 0) agt64 (Z rfl) H11 rfl) ?_
 have h12 := ((hx.ext n3.ext).ext n8.ext)
 refine lw_e (oe_callf (vs := [.slice A l c]) co67 (ar1 (Z rfl)) (areSegs_ok (l := l) (c := c) (xs := xs) h12 (by first | omega | simp <;> omega) (by first | omega | simp <;> omega)) ?_)
 rintro _ w13 ⟨rfl, e14⟩
 have E15 := qe E10 e14
 refine lw_v (qd (¬ (l ≤ 40 ∧ segsOk l xs))) (dv_notd (p := l ≤ 40 ∧ segsOk l xs) (Z rfl)) <| qm (qd (¬ (l ≤ 40 ∧ segsOk l xs))) rfl rfl ?_
 by_cases hb16 : l ≤ 40 ∧ segsOk l xs
 · obtain ⟨h40_, hsg⟩ := id hb16
   have H17 := (e14.blk n8.blk)
   refine lw_vy (.agg (qA x y u)) (d := 13) rfl rfl (congrArg Value.bool (decide_eq_false (not_not_intro hb16))) (dv_loads (l := (qL x y u)) agt40 sz40 (Z rfl) H17 rfl) <| lw_ey (d := 13) rfl rfl (congrArg Value.bool (decide_eq_false (not_not_intro hb16))) (oe_callf (vs := [.agg (qA x y u)]) co55 (ar1 (Z rfl)) (iPointOk_ok (x := x) (y := y) (u := u) fx_ fy_ fu_ ) ?_)
   rintro _ w18 ⟨rfl, e19⟩
   have E20 := qe E15 e19
   refine lw_vy (qd (¬ (pOk x y u))) (d := 13) rfl rfl (congrArg Value.bool (decide_eq_false (not_not_intro hb16))) (dv_notd (p := pOk x y u) (Z rfl)) <| lw_v (qd (¬ (pOk x y u))) (dv_pick_f (T rfl (congrArg Value.bool (decide_eq_false (not_not_intro hb16)))) (Z rfl)) <| lw_nil ?_
   by_cases hb21 : pOk x y u
   · have hu0 := hb21.1
     refine rk_cf (T rfl (congrArg Value.bool (decide_eq_false (not_not_intro hb21)))) <| rk_skip <| rk_seq <| rk_reg ?_
     have H22 := (e19.blk H17)
     refine lw_v (.agg (qA x y u)) (dv_loads (l := (qL x y u)) agt40 sz40 (Z rfl) H22 rfl) <| lw_e (oe_callf (vs := [.agg (qA x y u)]) co68 (ar1 (Z rfl)) (spot_ok fx_ fy_ fu_  ) ?_)
     rintro _ w38 ⟨nr23, A24, n25, c26, nr27, A28, n29, c30, nr31, A32, n33, c34, rfl, e39, h35, h36, h37⟩
     have E40 := qe E20 e39
     have lh35 := ql h35
     have lh36 := ql h36
     have lh37 := ql h37
     refine lw_e (oe_buildSlice0 us50 sz2 ?_)
     intro b41 w42 n43
     have N44 : w.heap.size ≤ b41 := n43.eq ▸ E40.size
     have H45 := (e39.blk H22)
     have : b6 < b41 := n43.eq ▸ lt_of_blk H45
     have E46 := qe E40 n43.ext
     have hO47 := Ow.made (T := 2) (k := .i64) (z := .int .i64 0) (c := 0) n43 (by decide)
     refine lw_e (oe_alloc ze109 ?_)
     intro b48 w49 n50
     have N51 : w.heap.size ≤ b48 := n50.eq ▸ E46.size
     have H52 := (n43.ext.blk H45)
     have : b6 < b48 := n50.eq ▸ lt_of_blk H52
     have E53 := qe E46 n50.ext
     refine lw_e (oe_store (v := .agg #[.bool nr23, .slice A24 n25 c26, .bool nr27, .slice A28 n29 c30, .bool nr31, .slice A32 n33 c34]) (vs := [.bool nr23, .slice A24 n25 c26, .bool nr27, .slice A28 n29 c30, .bool nr31, .slice A32 n33 c34]) (l := [.bool nr23, .slice A24 n25 c26, .bool nr27, .slice A28 n29 c30, .bool nr31, .slice A32 n33 c34]) (Z rfl) (Z rfl) sz109 rfl rfl rfl n50.blk rfl ?_)
     intro w54 s55 H56
     have E57 := below_st E53 N51 s55
     refine qs (.slice (some ⟨b41, 0, none⟩) (([] : List Int).length) 0) rfl rfl <| lw_nil <| rk_seq <| rk_seq <| rk_reg ?_
     have H58 := (s55.blk (n50.ext.blk (n43.ext.blk (e39.blk (e19.blk (e14.blk H11))))) (by omega))
     refine lw_v (.slice A l c) (dv_load1 (b := b1) (o := 0) agt64 (Z rfl) H58 rfl) <| lw_v (qi (l : Int)) (dv_len (ad := A) (l := l) (c := c) us64 (Z rfl)) <| lw_v (qi 0) (dv_move C) <| lw_nil <| rk_block ?_
     have h59 := ((hO47.ext n50.ext).st s55 n50.blk (by decide))
     have h60 := (((h35.ext n43.ext).ext n50.ext).st s55 n50.blk (by decide))
     have h61 := (((h36.ext n43.ext).ext n50.ext).st s55 n50.blk (by decide))
     have h62 := (((h37.ext n43.ext).ext n50.ext).st s55 n50.blk (by decide))
     have H63 := (s55.blk (n50.ext.blk H52) (by omega))
     refine rk_loop (fun dm_ fr wl => ∃ (i : Nat) (L : List Int) (Ad : Option Addr) (cp : Nat), dm_ = l - i ∧ fr 2 = .pointer (some ⟨b1, 0, none⟩) ∧ fr 4 = .slice none 0 0 ∧ fr 5 = .pointer (some ⟨b48, 0, none⟩) ∧ fr 6 = .slice Ad (L.length) cp ∧ fr 21 = .slice A l c ∧ fr 22 = qi (l : Int) ∧ fr 23 = qi (i : Int) ∧ Below w.heap.size w wl ∧ wl.heap[b1]? = some (.cells #[.slice A l c] 64) ∧ wl.heap[b6]? = some (.cells (qA x y u) 40) ∧ wl.heap[b48]? = some (.cells #[.bool nr23, .slice A24 n25 c26, .bool nr27, .slice A28 n29 c30, .bool nr31, .slice A32 n33 c34] 109) ∧ Ow wl w.heap.size 2 .i64 Ad cp L ∧ Num 64 36 .u64 wl nr23 A24 n25 c26 x 256 ∧ Num 64 36 .u64 wl nr27 A28 n29 c30 y 256 ∧ Num 64 36 .u64 wl nr31 A32 n33 c34 u 256 ∧ (i ≤ l) ∧ (L = stL xs x u i) ∧ (∃ g_, Ad = some ⟨g_, 0, none⟩)) (l - 0) ⟨0, [], (some ⟨b41, 0, none⟩), 0, rfl, rfl, rfl, rfl, rfl, rfl, rfl, (vi (by omega)), E57, H58, H63, H56, (h59.mono N44), h60, h61, h62, (Nat.zero_le _), rfl, ⟨_, rfl⟩⟩ ?_
     intro d68 fr67 w64 hI65 ih66
     obtain ⟨i, L, Ad, cp, hd84, f69, f70, f71, f72, f73, f74, f75, E76, H77, H78, H79, h80, h81, h82, h83, hi, hL, hg_⟩ := hI65
     obtain ⟨g_, rfl⟩ := hg_
     have hLl : L.length ≤ i := by rw [hL]; exact stL_len ..
     have hrg : i < l → (-1000000 ≤ xs.getD (i * 4) 0 ∧ xs.getD (i * 4) 0 ≤ 1000000) ∧ (-1000000 ≤ xs.getD (i * 4 + 1) 0 ∧ xs.getD (i * 4 + 1) 0 ≤ 1000000) ∧ (-1000000 ≤ xs.getD (i * 4 + 2) 0 ∧ xs.getD (i * 4 + 2) 0 ≤ 1000000) ∧ (-1000000 ≤ xs.getD (i * 4 + 3) 0 ∧ xs.getD (i * 4 + 3) 0 ≤ 1000000) := fun h_ => segOk_rg (hsg i h_)
     have lh81 := ql h81
     have lh82 := ql h82
     have lh83 := ql h83
     refine rk_seq <| rk_reg <| lw_v _ (dv_lss (a := (i : Int)) (b := (l : Int)) (T rfl f75) (T rfl f74)) <| lw_nil <| rk_seq ?_
     by_cases hb85 : ((i : Int)) < ((l : Int))
     · refine rk_ct (T rfl (qT hb85)) <| rk_skip <| rk_seq <| rk_block <| rk_seq <| rk_reg <| qm (qi (i : Int)) rfl f75 ?_
       have h86 := (hx.ext E76)
       obtain ⟨g87, o88, rfl⟩ := RdI.at h86 (by first | omega | simp <;> omega)
       refine lw_v (.pointer (some ⟨g87, o88 + i * 4, none⟩)) (dv_indexM (g := g87) (o := o88) (l := l) (c := c) (i := i) (j := (i : Int)) (m := 4) us64 sz27 (T rfl f73) (T rfl f75) (by omega) (by first | omega | simp <;> omega)) <| lw_v (.agg #[qi (xs.getD (i * 4) 0), qi (xs.getD (i * 4 + 1) 0), qi (xs.getD (i * 4 + 2) 0), qi (xs.getD (i * 4 + 3) 0)]) (dv_loadsI (i := i * 4) (m := 4) (k := .i64) (L := xs) (l := [qi (xs.getD (i * 4) 0), qi (xs.getD (i * 4 + 1) 0), qi (xs.getD (i * 4 + 2) 0), qi (xs.getD (i * 4 + 3) 0)]) agt27 sz27 (Z rfl) h86 (by first | omega | simp <;> omega) rfl) <| lw_e (oe_alloc ze27 ?_)
       intro b89 w90 n91
       have N92 : w.heap.size ≤ b89 := n91.eq ▸ E76.size
       have : b48 < b89 := n91.eq ▸ lt_of_blk H79
       have E93 := qe E76 n91.ext
       refine qs (qi (i : Int)) rfl rfl <| lw_e (oe_store (v := .agg #[qi (xs.getD (i * 4) 0), qi (xs.getD (i * 4 + 1) 0), qi (xs.getD (i * 4 + 2) 0), qi (xs.getD (i * 4 + 3) 0)]) (vs := [qi (xs.getD (i * 4) 0), qi (xs.getD (i * 4 + 1) 0), qi (xs.getD (i * 4 + 2) 0), qi (xs.getD (i * 4 + 3) 0)]) (l := [qi (xs.getD (i * 4) 0), qi (xs.getD (i * 4 + 1) 0), qi (xs.getD (i * 4 + 2) 0), qi (xs.getD (i * 4 + 3) 0)]) (Z rfl) (Z rfl) sz27 rfl rfl rfl n91.blk rfl ?_)
       intro w94 s95 H96
       have E97 := below_st E93 N92 s95
       refine lw_nil <| rk_seq <| rk_any (fun w => w.heap[b89]? = some (.cells #[qi (xs.getD (i * 4) 0), qi (xs.getD (i * 4 + 1) 0), qi (xs.getD (i * 4 + 2) 0), qi (xs.getD (i * 4 + 3) 0)] 27) ∧ w.heap[b48]? = some (.cells #[.bool nr23, .slice A24 n25 c26, .bool nr27, .slice A28 n29 c30, .bool nr31, .slice A32 n33 c34] 109)) [] mo ?_
       intro w98 d99
       have E100 := qe E97 d99.ext
       have H101 := (d99.ext.blk H96)
       have H102 := (d99.ext.blk (s95.blk (n91.ext.blk H79) (by omega)))
       refine aw_pure 0 (.pointer (some ⟨b89, 0, none⟩)) rfl (by kernel_rfl) .none ⟨H101, H102⟩ (fun _ => dv_fieldAddr (a := ⟨b89, 0, none⟩) (a' := ⟨b89, 0, none⟩) fo27_0 (Z rfl) rfl) <| aw_pure 1 (.pointer (some ⟨b89, 0, none⟩)) rfl (by kernel_rfl) .none ⟨H101, H102⟩ (fun _ => dv_fieldAddr (a := ⟨b89, 0, none⟩) (a' := ⟨b89, 0, none⟩) fo25_0 (Z rfl) rfl) <| aw_load 2 (qi (xs.getD (i * 4) 0)) rfl (by kernel_rfl) .none ⟨H101, H102⟩ (fun _ s => dv_load1 (b := b89) (o := 0) agt2 (Z rfl) s.1 rfl) <| aw_pure 3 (.pointer (some ⟨b89, 2, none⟩)) rfl (by kernel_rfl) .none ⟨H101, H102⟩ (fun _ => dv_fieldAddr (a := ⟨b89, 0, none⟩) (a' := ⟨b89, 2, none⟩) fo27_1 (Z rfl) rfl) <| aw_pure 4 (.pointer (some ⟨b89, 2, none⟩)) rfl (by kernel_rfl) .none ⟨H101, H102⟩ (fun _ => dv_fieldAddr (a := ⟨b89, 2, none⟩) (a' := ⟨b89, 2, none⟩) fo25_0 (Z rfl) rfl) <| aw_load 5 (qi (xs.getD (i * 4 + 2) 0)) rfl (by kernel_rfl) .none ⟨H101, H102⟩ (fun _ s => dv_load1 (b := b89) (o := 2) agt2 (Z rfl) s.1 rfl) <| aw_pure 6 (qd ((xs.getD (i * 4) 0) < (xs.getD (i * 4 + 2) 0))) rfl (by kernel_rfl) .none ⟨H101, H102⟩ (fun _ => dv_lss (a := xs.getD (i * 4) 0) (b := xs.getD (i * 4 + 2) 0) (Z rfl) (Z rfl)) <| aw_pure 7 (qd ((xs.getD (i * 4) 0) < (xs.getD (i * 4 + 2) 0))) rfl (by kernel_rfl) .none ⟨H101, H102⟩ (fun _ => dv_move (Z rfl)) ?_
       by_cases hb103 : (xs.getD (i * 4) 0) < (xs.getD (i * 4 + 2) 0)
       · refine aw_pure 8 (.pointer (some ⟨b48, 0, none⟩)) rfl (by kernel_rfl) (.yes (d := 35) rfl rfl (qT hb103)) ⟨H101, H102⟩ (fun _ => dv_fieldAddr (a := ⟨b48, 0, none⟩) (a' := ⟨b48, 0, none⟩) fo109_0 (T rfl f71) rfl) <| aw_load 9 (.agg #[.bool nr23, .slice A24 n25 c26]) rfl (by kernel_rfl) (.yes (d := 35) rfl rfl (qT hb103)) ⟨H101, H102⟩ (fun _ s => dv_loads (l := [.bool nr23, .slice A24 n25 c26]) agt107 sz107 (Z rfl) s.2 rfl) <| aw_pure 10 (.pointer (some ⟨b89, 0, none⟩)) rfl (by kernel_rfl) (.yes (d := 35) rfl rfl (qT hb103)) ⟨H101, H102⟩ (fun _ => dv_fieldAddr (a := ⟨b89, 0, none⟩) (a' := ⟨b89, 0, none⟩) fo27_0 (Z rfl) rfl) <| aw_pure 11 (.pointer (some ⟨b89, 0, none⟩)) rfl (by kernel_rfl) (.yes (d := 35) rfl rfl (qT hb103)) ⟨H101, H102⟩ (fun _ => dv_fieldAddr (a := ⟨b89, 0, none⟩) (a' := ⟨b89, 0, none⟩) fo25_0 (Z rfl) rfl) <| aw_load 12 (qi (xs.getD (i * 4) 0)) rfl (by kernel_rfl) (.yes (d := 35) rfl rfl (qT hb103)) ⟨H101, H102⟩ (fun _ s => dv_load1 (b := b89) (o := 0) agt2 (Z rfl) s.1 rfl) <| aw_pure 14 (.pointer (some ⟨b48, 4, none⟩)) rfl (by kernel_rfl) (.yes (d := 35) rfl rfl (qT hb103)) ⟨H101, H102⟩ (fun _ => dv_fieldAddr (a := ⟨b48, 0, none⟩) (a' := ⟨b48, 4, none⟩) fo109_2 (T rfl f71) rfl) <| aw_load 15 (.agg #[.bool nr31, .slice A32 n33 c34]) rfl (by kernel_rfl) (.yes (d := 35) rfl rfl (qT hb103)) ⟨H101, H102⟩ (fun _ s => dv_loads (l := [.bool nr31, .slice A32 n33 c34]) agt107 sz107 (Z rfl) s.2 rfl) <| aw_one 13 rfl (by kernel_rfl) (.yes (d := 35) rfl rfl (qT hb103)) (oe_callf (vs := [qi (xs.getD (i * 4) 0)]) co70 (ar1 (Z rfl)) (whole_ok  (by omega)) ?_)
         rintro _ w109 ⟨nr104, A105, n106, c107, rfl, e110, h108⟩
         have E111 := qe E100 e110
         have lh108 := ql h108
         have H112 := (e110.blk H101)
         have H113 := (e110.blk H102)
         refine ⟨.inr ⟨H112, H113⟩, ?_⟩
         have h114 := ((((h83.ext n91.ext).st s95 n91.blk (by decide)).ext d99.ext).ext e110)
         refine aw_one 16 rfl (by kernel_rfl) (.yes (d := 35) rfl rfl (qT hb103)) (oe_callf (vs := [.agg #[.bool nr104, .slice A105 n106 c107], .agg #[.bool nr31, .slice A32 n33 c34]]) co71 (ar2 (Z rfl) (Z rfl)) (nby_ok h108 h114 (by first | decide | omega) (by first | decide | omega)) ?_)
         rintro _ w120 ⟨nr115, A116, n117, c118, rfl, e121, h119⟩
         have E122 := qe E111 e121
         have lh119 := ql h119
         have H123 := (e121.blk H112)
         have H124 := (e121.blk H113)
         refine ⟨.inr ⟨H123, H124⟩, ?_⟩
         have h125 := (((((h81.ext n91.ext).st s95 n91.blk (by decide)).ext d99.ext).ext e110).ext e121)
         refine aw_one 17 rfl (by kernel_rfl) (.yes (d := 35) rfl rfl (qT hb103)) (oe_callf (vs := [.agg #[.bool nr23, .slice A24 n25 c26], .agg #[.bool nr115, .slice A116 n117 c118]]) co69 (ar2 (Z rfl) (Z rfl)) (ncmp_ok h125 h119 (by first | decide | omega) (by first | decide | omega)) ?_)
         rintro _ w126 ⟨rfl, e127⟩
         have E128 := qe E122 e127
         have H129 := (e127.blk H123)
         have H130 := (e127.blk H124)
         refine ⟨.inr ⟨H129, H130⟩, ?_⟩
         refine aw_pure 18 (qd (0 ≤ (sgnI (x - ((xs.getD (i * 4) 0) * u))))) rfl (by kernel_rfl) (.yes (d := 35) rfl rfl (qT hb103)) ⟨H129, H130⟩ (fun _ => dv_geq (a := sgnI (x - ((xs.getD (i * 4) 0) * u))) (b := 0) (Z rfl) C) <| aw_pure 19 (qd (0 ≤ (sgnI (x - ((xs.getD (i * 4) 0) * u))))) rfl (by kernel_rfl) .none ⟨H129, H130⟩ (fun _ => dv_pick_t (T rfl (qT hb103)) (Z rfl)) <| aw_pure 20 (qd (0 ≤ (sgnI (x - ((xs.getD (i * 4) 0) * u))))) rfl (by kernel_rfl) .none ⟨H129, H130⟩ (fun _ => dv_move (Z rfl)) ?_
         by_cases hb131 : 0 ≤ (sgnI (x - ((xs.getD (i * 4) 0) * u)))
         · refine aw_pure 21 (.pointer (some ⟨b48, 0, none⟩)) rfl (by kernel_rfl) (.yes (d := 48) rfl rfl (qT hb131)) ⟨H129, H130⟩ (fun _ => dv_fieldAddr (a := ⟨b48, 0, none⟩) (a' := ⟨b48, 0, none⟩) fo109_0 (T rfl f71) rfl) <| aw_load 22 (.agg #[.bool nr23, .slice A24 n25 c26]) rfl (by kernel_rfl) (.yes (d := 48) rfl rfl (qT hb131)) ⟨H129, H130⟩ (fun _ s => dv_loads (l := [.bool nr23, .slice A24 n25 c26]) agt107 sz107 (Z rfl) s.2 rfl) <| aw_pure 23 (.pointer (some ⟨b89, 2, none⟩)) rfl (by kernel_rfl) (.yes (d := 48) rfl rfl (qT hb131)) ⟨H129, H130⟩ (fun _ => dv_fieldAddr (a := ⟨b89, 0, none⟩) (a' := ⟨b89, 2, none⟩) fo27_1 (Z rfl) rfl) <| aw_pure 24 (.pointer (some ⟨b89, 2, none⟩)) rfl (by kernel_rfl) (.yes (d := 48) rfl rfl (qT hb131)) ⟨H129, H130⟩ (fun _ => dv_fieldAddr (a := ⟨b89, 2, none⟩) (a' := ⟨b89, 2, none⟩) fo25_0 (Z rfl) rfl) <| aw_load 25 (qi (xs.getD (i * 4 + 2) 0)) rfl (by kernel_rfl) (.yes (d := 48) rfl rfl (qT hb131)) ⟨H129, H130⟩ (fun _ s => dv_load1 (b := b89) (o := 2) agt2 (Z rfl) s.1 rfl) <| aw_pure 27 (.pointer (some ⟨b48, 4, none⟩)) rfl (by kernel_rfl) (.yes (d := 48) rfl rfl (qT hb131)) ⟨H129, H130⟩ (fun _ => dv_fieldAddr (a := ⟨b48, 0, none⟩) (a' := ⟨b48, 4, none⟩) fo109_2 (T rfl f71) rfl) <| aw_load 28 (.agg #[.bool nr31, .slice A32 n33 c34]) rfl (by kernel_rfl) (.yes (d := 48) rfl rfl (qT hb131)) ⟨H129, H130⟩ (fun _ s => dv_loads (l := [.bool nr31, .slice A32 n33 c34]) agt107 sz107 (Z rfl) s.2 rfl) <| aw_one 26 rfl (by kernel_rfl) (.yes (d := 48) rfl rfl (qT hb131)) (oe_callf (vs := [qi (xs.getD (i * 4 + 2) 0)]) co70 (ar1 (Z rfl)) (whole_ok  (by omega)) ?_)
           rintro _ w137 ⟨nr132, A133, n134, c135, rfl, e138, h136⟩
           have E139 := qe E128 e138
           have lh136 := ql h136
           have H140 := (e138.blk H129)
           have H141 := (e138.blk H130)
           refine ⟨.inr ⟨H140, H141⟩, ?_⟩
           have h142 := (((h114.ext e121).ext e127).ext e138)
           refine aw_one 29 rfl (by kernel_rfl) (.yes (d := 48) rfl rfl (qT hb131)) (oe_callf (vs := [.agg #[.bool nr132, .slice A133 n134 c135], .agg #[.bool nr31, .slice A32 n33 c34]]) co71 (ar2 (Z rfl) (Z rfl)) (nby_ok h136 h142 (by first | decide | omega) (by first | decide | omega)) ?_)
           rintro _ w148 ⟨nr143, A144, n145, c146, rfl, e149, h147⟩
           have E150 := qe E139 e149
           have lh147 := ql h147
           have H151 := (e149.blk H140)
           have H152 := (e149.blk H141)
           refine ⟨.inr ⟨H151, H152⟩, ?_⟩
           have h153 := (((h125.ext e127).ext e138).ext e149)
           refine aw_one 30 rfl (by kernel_rfl) (.yes (d := 48) rfl rfl (qT hb131)) (oe_callf (vs := [.agg #[.bool nr23, .slice A24 n25 c26], .agg #[.bool nr143, .slice A144 n145 c146]]) co69 (ar2 (Z rfl) (Z rfl)) (ncmp_ok h153 h147 (by first | decide | omega) (by first | decide | omega)) ?_)
           rintro _ w154 ⟨rfl, e155⟩
           have E156 := qe E150 e155
           have H157 := (e155.blk H151)
           have H158 := (e155.blk H152)
           refine ⟨.inr ⟨H157, H158⟩, ?_⟩
           refine aw_pure 31 (qd ((sgnI (x - ((xs.getD (i * 4 + 2) 0) * u))) < 0)) rfl (by kernel_rfl) (.yes (d := 48) rfl rfl (qT hb131)) ⟨H157, H158⟩ (fun _ => dv_lss (a := sgnI (x - ((xs.getD (i * 4 + 2) 0) * u))) (b := 0) (Z rfl) C) <| aw_pure 32 (qd ((sgnI (x - ((xs.getD (i * 4 + 2) 0) * u))) < 0)) rfl (by kernel_rfl) .none ⟨H157, H158⟩ (fun _ => dv_pick_t (T rfl (qT hb131)) (Z rfl)) <| aw_done (by kernel_rfl) ?_
           by_cases hb159 : (sgnI (x - ((xs.getD (i * 4 + 2) 0) * u))) < 0
           · refine rk_ct (T rfl (qT hb159)) <| rk_reg <| qm (.slice (some ⟨g_, 0, none⟩) (L.length) cp) rfl f72 <| qm (qi (i : Int)) rfl rfl <| lw_e (oe_buildSlice (pv := [(0, qi (i : Int))]) (init := [qi 0]) (l := [qi (i : Int)]) us50 sz2 rfl rfl zc2 (by kernel_rfl) ⟨rfl, (Z rfl), trivial⟩ rfl ?_)
             intro b160 w161 n162
             have N163 : w.heap.size ≤ b160 := n162.eq ▸ E156.size
             have : b89 < b160 := n162.eq ▸ lt_of_blk H157
             have E164 := qe E156 n162.ext
             have h165 := ((((((((((h80.ext n91.ext).st s95 n91.blk (by decide)).ext d99.ext).ext e110).ext e121).ext e127).ext e138).ext e149).ext e155).ext n162.ext)
             refine lw_e (oe_appendT (base := w.heap.size) (L := L) (M := [(i : Int)]) (m := 1) us50 in2 (Z rfl) (Z rfl) h165 (Wd.ownW (xs := [(i : Int)]) n162.blk) rfl (by first | omega | simp <;> omega) (by first | omega | simp <;> omega) ?_)
             intro Ad167 c168 w169 hO170 x171 bt166
             have E172 := below_bl E164 (Nat.le_refl _) x171
             refine qs (.slice Ad167 ((L ++ [(i : Int)]).length) c168) rfl rfl <| lw_nil <| rk_inBlock <| rk_reg <| lw_v _ (dv_add (a := (i : Int)) (b := 1) (z := (i : Int) + 1) (T rfl f75) C (wr_i64 (by omega) (by omega))) <| qm (qi ((i : Int) + 1)) rfl rfl <| lw_nil ?_
             have h173 := (((h153.ext e155).ext n162.ext).bt bt166 (by decide))
             have h174 := (((((((((((h82.ext n91.ext).st s95 n91.blk (by decide)).ext d99.ext).ext e110).ext e121).ext e127).ext e138).ext e149).ext e155).ext n162.ext).bt bt166 (by decide))
             have h175 := ((((h142.ext e149).ext e155).ext n162.ext).bt bt166 (by decide))
             have H176 := (by first | exact bl_blk x171 (n162.ext.blk (e155.blk (e149.blk (e138.blk (e127.blk (e121.blk (e110.blk (d99.ext.blk (s95.blk (n91.ext.blk H77) (by omega)))))))))) (by omega) | exact bt_blkT bt166 (n162.ext.blk (e155.blk (e149.blk (e138.blk (e127.blk (e121.blk (e110.blk (d99.ext.blk (s95.blk (n91.ext.blk H77) (by omega)))))))))) (by decide))
             have H177 := (by first | exact bl_blk x171 (n162.ext.blk (e155.blk (e149.blk (e138.blk (e127.blk (e121.blk (e110.blk (d99.ext.blk (s95.blk (n91.ext.blk H78) (by omega)))))))))) (by omega) | exact bt_blkT bt166 (n162.ext.blk (e155.blk (e149.blk (e138.blk (e127.blk (e121.blk (e110.blk (d99.ext.blk (s95.blk (n91.ext.blk H78) (by omega)))))))))) (by decide))
             have H178 := (by first | exact bl_blk x171 (n162.ext.blk H158) (by omega) | exact bt_blkT bt166 (n162.ext.blk H158) (by decide))
             exact ih66 (l - (i + 1)) _ _ (by rw [hd84]; omega) ⟨(i + 1), (L ++ [(i : Int)]), Ad167, c168, rfl, f69, f70, f71, rfl, f73, f74, (vi (by omega)), E172, H176, H177, H178, hO170, h173, h174, h175, (by omega), (by rw [hL]; exact stL_t (stS_t (by assumption) (by assumption))), (by obtain ⟨g2_, h2_, _⟩ := Ow.some_of hO170 (by simp only [List.length_append, List.length_singleton]; omega); exact ⟨g2_, h2_⟩)⟩
           refine rk_cf (T rfl (qF hb159)) <| rk_skip <| rk_inBlock <| rk_reg <| lw_v _ (dv_add (a := (i : Int)) (b := 1) (z := (i : Int) + 1) (T rfl f75) C (wr_i64 (by omega) (by omega))) <| qm (qi ((i : Int) + 1)) rfl rfl <| lw_nil ?_
           have h179 := (((((((((h80.ext n91.ext).st s95 n91.blk (by decide)).ext d99.ext).ext e110).ext e121).ext e127).ext e138).ext e149).ext e155)
           have h180 := (h153.ext e155)
           have h181 := (((((((((h82.ext n91.ext).st s95 n91.blk (by decide)).ext d99.ext).ext e110).ext e121).ext e127).ext e138).ext e149).ext e155)
           have h182 := ((h142.ext e149).ext e155)
           have H183 := (e155.blk (e149.blk (e138.blk (e127.blk (e121.blk (e110.blk (d99.ext.blk (s95.blk (n91.ext.blk H77) (by omega)))))))))
           have H184 := (e155.blk (e149.blk (e138.blk (e127.blk (e121.blk (e110.blk (d99.ext.blk (s95.blk (n91.ext.blk H78) (by omega)))))))))
           exact ih66 (l - (i + 1)) _ _ (by rw [hd84]; omega) ⟨(i + 1), L, (some ⟨g_, 0, none⟩), cp, rfl, f69, f70, f71, f72, f73, f74, (vi (by omega)), E156, H183, H184, H158, h179, h180, h181, h182, (by omega), (by rw [hL]; exact stL_f (by first | exact stS_f1 hu0 (by assumption) | exact stS_f2 (by assumption) | exact stS_f3 (by assumption))), ⟨_, rfl⟩⟩
         refine aw_no 21 rfl (by kernel_rfl) (d := 48) rfl rfl (qF hb131) ⟨H129, H130⟩ <| aw_no 22 rfl (by kernel_rfl) (d := 48) rfl rfl (qF hb131) ⟨H129, H130⟩ <| aw_no 23 rfl (by kernel_rfl) (d := 48) rfl rfl (qF hb131) ⟨H129, H130⟩ <| aw_no 24 rfl (by kernel_rfl) (d := 48) rfl rfl (qF hb131) ⟨H129, H130⟩ <| aw_no 25 rfl (by kernel_rfl) (d := 48) rfl rfl (qF hb131) ⟨H129, H130⟩ <| aw_no 26 rfl (by kernel_rfl) (d := 48) rfl rfl (qF hb131) ⟨H129, H130⟩ <| aw_no 27 rfl (by kernel_rfl) (d := 48) rfl rfl (qF hb131) ⟨H129, H130⟩ <| aw_no 28 rfl (by kernel_rfl) (d := 48) rfl rfl (qF hb131) ⟨H129, H130⟩ <| aw_no 29 rfl (by kernel_rfl) (d := 48) rfl rfl (qF hb131) ⟨H129, H130⟩ <| aw_no 30 rfl (by kernel_rfl) (d := 48) rfl rfl (qF hb131) ⟨H129, H130⟩ <| aw_no 31 rfl (by kernel_rfl) (d := 48) rfl rfl (qF hb131) ⟨H129, H130⟩ <| aw_pure 32 (.bool false) rfl (by kernel_rfl) .none ⟨H129, H130⟩ (fun _ => dv_pick_f (T rfl (qF hb131)) C) <| aw_done (by kernel_rfl) <| rk_cf (Z rfl) <| rk_skip <| rk_inBlock <| rk_reg <| lw_v _ (dv_add (a := (i : Int)) (b := 1) (z := (i : Int) + 1) (T rfl f75) C (wr_i64 (by omega) (by omega))) <| qm (qi ((i : Int) + 1)) rfl rfl <| lw_nil ?_
         have h185 := ((((((h80.ext n91.ext).st s95 n91.blk (by decide)).ext d99.ext).ext e110).ext e121).ext e127)
         have h186 := (h125.ext e127)
         have h187 := ((((((h82.ext n91.ext).st s95 n91.blk (by decide)).ext d99.ext).ext e110).ext e121).ext e127)
         have h188 := ((h114.ext e121).ext e127)
         have H189 := (e127.blk (e121.blk (e110.blk (d99.ext.blk (s95.blk (n91.ext.blk H77) (by omega))))))
         have H190 := (e127.blk (e121.blk (e110.blk (d99.ext.blk (s95.blk (n91.ext.blk H78) (by omega))))))
         exact ih66 (l - (i + 1)) _ _ (by rw [hd84]; omega) ⟨(i + 1), L, (some ⟨g_, 0, none⟩), cp, rfl, f69, f70, f71, f72, f73, f74, (vi (by omega)), E128, H189, H190, H130, h185, h186, h187, h188, (by omega), (by rw [hL]; exact stL_f (by first | exact stS_f1 hu0 (by assumption) | exact stS_f2 (by assumption) | exact stS_f3 (by assumption))), ⟨_, rfl⟩⟩
       refine aw_no 8 rfl (by kernel_rfl) (d := 35) rfl rfl (qF hb103) ⟨H101, H102⟩ <| aw_no 9 rfl (by kernel_rfl) (d := 35) rfl rfl (qF hb103) ⟨H101, H102⟩ <| aw_no 10 rfl (by kernel_rfl) (d := 35) rfl rfl (qF hb103) ⟨H101, H102⟩ <| aw_no 11 rfl (by kernel_rfl) (d := 35) rfl rfl (qF hb103) ⟨H101, H102⟩ <| aw_no 12 rfl (by kernel_rfl) (d := 35) rfl rfl (qF hb103) ⟨H101, H102⟩ <| aw_no 13 rfl (by kernel_rfl) (d := 35) rfl rfl (qF hb103) ⟨H101, H102⟩ <| aw_no 14 rfl (by kernel_rfl) (d := 35) rfl rfl (qF hb103) ⟨H101, H102⟩ <| aw_no 15 rfl (by kernel_rfl) (d := 35) rfl rfl (qF hb103) ⟨H101, H102⟩ <| aw_no 16 rfl (by kernel_rfl) (d := 35) rfl rfl (qF hb103) ⟨H101, H102⟩ <| aw_no 17 rfl (by kernel_rfl) (d := 35) rfl rfl (qF hb103) ⟨H101, H102⟩ <| aw_no 18 rfl (by kernel_rfl) (d := 35) rfl rfl (qF hb103) ⟨H101, H102⟩ <| aw_pure 19 (.bool false) rfl (by kernel_rfl) .none ⟨H101, H102⟩ (fun _ => dv_pick_f (T rfl (qF hb103)) C) <| aw_pure 20 (.bool false) rfl (by kernel_rfl) .none ⟨H101, H102⟩ (fun _ => dv_move (Z rfl)) <| aw_no 21 rfl (by kernel_rfl) (d := 48) rfl rfl (rfl) ⟨H101, H102⟩ <| aw_no 22 rfl (by kernel_rfl) (d := 48) rfl rfl (rfl) ⟨H101, H102⟩ <| aw_no 23 rfl (by kernel_rfl) (d := 48) rfl rfl (rfl) ⟨H101, H102⟩ <| aw_no 24 rfl (by kernel_rfl) (d := 48) rfl rfl (rfl) ⟨H101, H102⟩ <| aw_no 25 rfl (by kernel_rfl) (d := 48) rfl rfl (rfl) ⟨H101, H102⟩ <| aw_no 26 rfl (by kernel_rfl) (d := 48) rfl rfl (rfl) ⟨H101, H102⟩ <| aw_no 27 rfl (by kernel_rfl) (d := 48) rfl rfl (rfl) ⟨H101, H102⟩ <| aw_no 28 rfl (by kernel_rfl) (d := 48) rfl rfl (rfl) ⟨H101, H102⟩ <| aw_no 29 rfl (by kernel_rfl) (d := 48) rfl rfl (rfl) ⟨H101, H102⟩ <| aw_no 30 rfl (by kernel_rfl) (d := 48) rfl rfl (rfl) ⟨H101, H102⟩ <| aw_no 31 rfl (by kernel_rfl) (d := 48) rfl rfl (rfl) ⟨H101, H102⟩ <| aw_pure 32 (.bool false) rfl (by kernel_rfl) .none ⟨H101, H102⟩ (fun _ => dv_pick_f (Z rfl) C) <| aw_done (by kernel_rfl) <| rk_cf (Z rfl) <| rk_skip <| rk_inBlock <| rk_reg <| lw_v _ (dv_add (a := (i : Int)) (b := 1) (z := (i : Int) + 1) (T rfl f75) C (wr_i64 (by omega) (by omega))) <| qm (qi ((i : Int) + 1)) rfl rfl <| lw_nil ?_
       have h191 := (((h80.ext n91.ext).st s95 n91.blk (by decide)).ext d99.ext)
       have h192 := (((h81.ext n91.ext).st s95 n91.blk (by decide)).ext d99.ext)
       have h193 := (((h82.ext n91.ext).st s95 n91.blk (by decide)).ext d99.ext)
       have h194 := (((h83.ext n91.ext).st s95 n91.blk (by decide)).ext d99.ext)
       have H195 := (d99.ext.blk (s95.blk (n91.ext.blk H77) (by omega)))
       have H196 := (d99.ext.blk (s95.blk (n91.ext.blk H78) (by omega)))
       exact ih66 (l - (i + 1)) _ _ (by rw [hd84]; omega) ⟨(i + 1), L, (some ⟨g_, 0, none⟩), cp, rfl, f69, f70, f71, f72, f73, f74, (vi (by omega)), E100, H195, H196, H102, h191, h192, h193, h194, (by omega), (by rw [hL]; exact stL_f (by first | exact stS_f1 hu0 (by assumption) | exact stS_f2 (by assumption) | exact stS_f3 (by assumption))), ⟨_, rfl⟩⟩
     refine rk_cf (T rfl (qF hb85)) <| rk_exit rfl <| rk_seq <| rk_reg <| lw_v (.func (.func 72) #[] #[.pointer (some ⟨b48, 0, none⟩)]) (dv_makeFunc (vs := [.pointer (some ⟨b48, 0, none⟩)]) (ar1 (T rfl f71))) <| lw_e (oe_alloc ze116 ?_)
     intro b197 w198 n199
     have N200 : w.heap.size ≤ b197 := n199.eq ▸ E76.size
     have : b48 < b197 := n199.eq ▸ lt_of_blk H79
     have E201 := qe E76 n199.ext
     refine lw_e (oe_store (v := .func (.func 72) #[] #[.pointer (some ⟨b48, 0, none⟩)]) (vs := [.func (.func 72) #[] #[.pointer (some ⟨b48, 0, none⟩)]]) (l := [.func (.func 72) #[] #[.pointer (some ⟨b48, 0, none⟩)]]) (Z rfl) (Z rfl) sz116 rfl rfl rfl n199.blk rfl ?_)
     intro w202 s203 H204
     have E205 := below_st E201 N200 s203
     refine qN <| qm (.slice (some ⟨g_, 0, none⟩) (L.length) cp) rfl f72 <| lw_v (.func (.func 76) #[] #[.pointer (some ⟨b1, 0, none⟩), .pointer (some ⟨b197, 0, none⟩)]) (dv_makeFunc (vs := [.pointer (some ⟨b1, 0, none⟩), .pointer (some ⟨b197, 0, none⟩)]) (ar2 (T rfl f69) (Z rfl))) ?_
     have h206 := ((h80.ext n199.ext).st s203 n199.blk (by decide))
     have h207 := ((h81.ext n199.ext).st s203 n199.blk (by decide))
     have h208 := ((h82.ext n199.ext).st s203 n199.blk (by decide))
     have h209 := ((h83.ext n199.ext).st s203 n199.blk (by decide))
     have h210 := hx.ext E205
     have hil : i = l := by omega
     have hge_ := h206.ge rfl
     obtain ⟨cur_, hgb_⟩ := h206.blk0
     have H211 := (s203.blk (n199.ext.blk H77) (by omega))
     have H212 := (s203.blk (n199.ext.blk H79) (by omega))
     have hC_ := stCmp_all (g := g_) h210 hxl hxb h207 h208 h209 H211 H204 H212 hsg h40_ hgb_ (RdI.ne hx hge_)
     refine lw_e (oe_callf (vs := [.slice (some ⟨g_, 0, none⟩) (L.length) cp, .func (.func 76) #[] #[.pointer (some ⟨b1, 0, none⟩), .pointer (some ⟨b197, 0, none⟩)]]) co75 (ar2 (Z rfl) (Z rfl)) (srtStb_ok (L := L) (l := L.length) (Ow.self h206) rfl (by omega) hC_ (stTO hu0) (stL_V2 hL hil) (stL_inj2 hL) (by omega)) ?_)
     rintro _ w217 ⟨M213, rfl, e218, hO214, hMl215, hMf216⟩
     have E219 := below_bx E205 hge_ e218
     have hM_ := sort_uniq2 hu0 hL hil hMl215 hMf216.1 hMf216.2
     refine qN <| qm (.slice (some ⟨g_, 0, none⟩) (L.length) cp) rfl f72 <| qs (.slice (some ⟨g_, 0, none⟩) (L.length) cp) rfl rfl <| lw_nil <| rk_ret Try.func31 (v := .slice (some ⟨g_, 0, none⟩) (L.length) cp) (res1 Try.results31 (rv_tmp rfl rfl)) ⟨_, rfl, ?_⟩
     rw [stR_t (show (l ≤ 40 ∧ segsOk l xs) ∧ pOk x y u from ⟨by assumption, by assumption⟩), ← hM_]
     exact ⟨_, _, by rw [hMl215], E219, hO214.lower hge_⟩
   refine rk_ct (T rfl (qT hb21)) <| rk_seq <| rk_reg <| lw_v (.slice none 0 0) (dv_assign C) <| lw_nil <| rk_ret Try.func31 (v := .slice none 0 0) (res1 Try.results31 (rv_tmp rfl rfl)) ⟨_, rfl, ?_⟩
   have hS : ¬ ((l ≤ 40 ∧ segsOk l xs) ∧ pOk x y u) := by intro hh; first | exact absurd hh.1 (by assumption) | exact absurd hh.2 (by assumption)
   rw [stR_f hS]
   exact ⟨none, 0, rfl, E20, .nil0 E20.size⟩
 refine lw_no (d := 13) rfl rfl (qT hb16) <| lw_no (d := 13) rfl rfl (qT hb16) <| lw_no (d := 13) rfl rfl (qT hb16) <| lw_v (.bool true) (dv_pick_t (T rfl (qT hb16)) C) <| lw_nil <| rk_ct (Z rfl) <| rk_seq <| rk_reg <| lw_v (.slice none 0 0) (dv_assign C) <| lw_nil <| rk_ret Try.func31 (v := .slice none 0 0) (res1 Try.results31 (rv_tmp rfl rfl)) ⟨_, rfl, ?_⟩
 have hS : ¬ ((l ≤ 40 ∧ segsOk l xs) ∧ pOk x y u) := by intro hh; first | exact absurd hh.1 (by assumption) | exact absurd hh.2 (by assumption)
 rw [stR_f hS]
 exact ⟨none, 0, rfl, E15, .nil0 E15.size⟩
end Go.Proofs.Ytmbpomcbdopgnaa.W
