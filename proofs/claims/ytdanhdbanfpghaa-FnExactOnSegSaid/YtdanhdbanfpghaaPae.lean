/- Walks and plain mathematics, packed by a program of this session: declarations that the rows reach. -/
import Derived.Test.YtdanhdbanfpghaaPad
set_option linter.unusedVariables false
set_option linter.unusedSimpArgs false
namespace Go.Proofs.Ytdanhdbanfpghaa.W
open Go Go.RowKit Go.Proofs.Ytdanhdbanfpghaa.Fw
attribute [local irreducible] RunK LW AW DV OE Ct
theorem agt102 : aggB Try.prog 102 = some true := by kernel_rfl
theorem agt122 : aggB Try.prog 122 = some true := by kernel_rfl
theorem agt31 : aggB Try.prog 31 = some true := by kernel_rfl
theorem agt37 : aggB Try.prog 37 = some true := by kernel_rfl
theorem co127 : callOk Try.prog 127 = true := by kernel_rfl
theorem co128 : callOk Try.prog 128 = true := by kernel_rfl
theorem co129 : callOk Try.prog 129 = true := by kernel_rfl
theorem co130 : callOk Try.prog 130 = true := by kernel_rfl
theorem co134 : callOk Try.prog 134 = true := by kernel_rfl
theorem co146 : callOk Try.prog 146 = true := by kernel_rfl
theorem co69 : callOk Try.prog 69 = true := by kernel_rfl
theorem co70 : callOk Try.prog 70 = true := by kernel_rfl
theorem co75 : callOk Try.prog 75 = true := by kernel_rfl
theorem co88 : callOk Try.prog 88 = true := by kernel_rfl
theorem co89 : callOk Try.prog 89 = true := by kernel_rfl
theorem co90 : callOk Try.prog 90 = true := by kernel_rfl
theorem co91 : callOk Try.prog 91 = true := by kernel_rfl
theorem co93 : callOk Try.prog 93 = true := by kernel_rfl
theorem co99 : callOk Try.prog 99 = true := by kernel_rfl
theorem eg37 : Try.prog.eqGuardType Try.prog.depth 37 = false := by kernel_rfl
theorem fl37 : nestB Try.prog 37 .u64 3 4 = true := by kernel_rfl
theorem fo102_0 : fieldOffB Try.prog 102 0 = some 0 := by kernel_rfl
theorem fo102_1 : fieldOffB Try.prog 102 1 = some 2 := by kernel_rfl
theorem fo102_2 : fieldOffB Try.prog 102 2 = some 4 := by kernel_rfl
theorem fo122_0 : fieldOffB Try.prog 122 0 = some 0 := by kernel_rfl
theorem fo122_1 : fieldOffB Try.prog 122 1 = some 2 := by kernel_rfl
theorem fo122_2 : fieldOffB Try.prog 122 2 = some 4 := by kernel_rfl
theorem fo33_0 : fieldOffB Try.prog 33 0 = some 0 := by kernel_rfl
theorem fo33_1 : fieldOffB Try.prog 33 1 = some 4 := by kernel_rfl
theorem fo33_2 : fieldOffB Try.prog 33 2 = some 8 := by kernel_rfl
theorem fo37_0 : fieldOffB Try.prog 37 0 = some 0 := by kernel_rfl
theorem fo37_1 : fieldOffB Try.prog 37 1 = some 4 := by kernel_rfl
theorem fo37_2 : fieldOffB Try.prog 37 2 = some 8 := by kernel_rfl
theorem pl102 : placesB Try.prog 102 = some [(0, 2), (2, 2), (4, 2)] := by kernel_rfl
theorem pl122 : placesB Try.prog 122 = some [(0, 2), (2, 2), (4, 2)] := by kernel_rfl
theorem sz102 : sizeB Try.prog 102 = some 6 := by kernel_rfl
theorem sz122 : sizeB Try.prog 122 = some 6 := by kernel_rfl
theorem sz31 : sizeB Try.prog 31 = some 4 := by kernel_rfl
theorem sz37 : sizeB Try.prog 37 = some 12 := by kernel_rfl
theorem us156 : Try.prog.underlying 156 = some (.slice 37) := by kernel_rfl
theorem zc102 : zcB Try.prog 102 = some [.bool false, .slice none 0 0, .bool false, .slice none 0 0, .bool false, .slice none 0 0] := by kernel_rfl
theorem zc122 : zcB Try.prog 122 = some [.bool false, .slice none 0 0, .bool false, .slice none 0 0, .bool false, .slice none 0 0] := by kernel_rfl
theorem ze102 : zeroB Try.prog 102 = some #[.bool false, .slice none 0 0, .bool false, .slice none 0 0, .bool false, .slice none 0 0] := by kernel_rfl
theorem ze122 : zeroB Try.prog 122 = some #[.bool false, .slice none 0 0, .bool false, .slice none 0 0, .bool false, .slice none 0 0] := by kernel_rfl
theorem ze37 : zeroB Try.prog 37 = some #[.int .u64 0, .int .u64 0, .int .u64 0, .int .u64 0, .int .u64 0, .int .u64 0, .int .u64 0, .int .u64 0, .int .u64 0, .int .u64 0, .int .u64 0, .int .u64 0] := by kernel_rfl
set_option maxHeartbeats 1000000 in
theorem toPoint_ok {w : World} {x y u : Int}   : Ct Try.prog 21 [.agg #[.int .u64 (wv3 x), .int .u64 (wv2 x), .int .u64 (wv1 x), .int .u64 (wv0 x), .int .u64 (wv3 y), .int .u64 (wv2 y), .int .u64 (wv1 y), .int .u64 (wv0 y), .int .u64 (wv3 u), .int .u64 (wv2 u), .int .u64 (wv1 u), .int .u64 (wv0 u)]] w fun v w1 => v = .agg #[.int .u64 (wv3 x), .int .u64 (wv2 x), .int .u64 (wv1 x), .int .u64 (wv0 x), .int .u64 (wv3 y), .int .u64 (wv2 y), .int .u64 (wv1 y), .int .u64 (wv0 y), .int .u64 (wv3 u), .int .u64 (wv2 u), .int .u64 (wv1 u), .int .u64 (wv0 u)] ∧ Ext w w1 := by
 refine ct_run (n := 17) Try.func21 rfl Try.ntmps21 rfl ?_
 have E0 : Below w.heap.size w w := Below.refl _ _
 refine rk_seq ?_
 refine rk_reg ?_
 refine lw_e (oe_box (v := .agg #[.int .u64 (wv3 x), .int .u64 (wv2 x), .int .u64 (wv1 x), .int .u64 (wv0 x), .int .u64 (wv3 y), .int .u64 (wv2 y), .int .u64 (wv1 y), .int .u64 (wv0 y), .int .u64 (wv3 u), .int .u64 (wv2 u), .int .u64 (wv1 u), .int .u64 (wv0 u)]) (cs := #[.int .u64 (wv3 x), .int .u64 (wv2 x), .int .u64 (wv1 x), .int .u64 (wv0 x), .int .u64 (wv3 y), .int .u64 (wv2 y), .int .u64 (wv1 y), .int .u64 (wv0 y), .int .u64 (wv3 u), .int .u64 (wv2 u), .int .u64 (wv1 u), .int .u64 (wv0 u)]) (T rfl rfl) rfl ?_)
 intro b1 w2 n3
 have N4 : w.heap.size ≤ b1 := n3.eq ▸ E0.size
 have E5 := below_ext E0 E0.size n3.ext
 refine lw_e (oe_alloc ze37 ?_)
 intro b6 w7 n8
 have N9 : w.heap.size ≤ b6 := n8.eq ▸ E5.size
 have : b1 < b6 := n8.eq ▸ lt_of_blk n3.blk
 have E10 := below_ext E5 E5.size n8.ext
 refine lw_nil ?_
 refine rk_seq ?_
 refine rk_reg ?_
 refine lw_e (oe_alloc ze37 ?_)
 intro b11 w12 n13
 have N14 : w.heap.size ≤ b11 := n13.eq ▸ E10.size
 have : b6 < b11 := n13.eq ▸ lt_of_blk n8.blk
 have E15 := below_ext E10 E10.size n13.ext
 refine lw_nil ?_
 refine rk_seq ?_
 refine rk_reg ?_
 refine lw_v (.pointer (some ⟨b1, 0, none⟩)) (dv_fieldAddr (a := ⟨b1, 0, none⟩) (a' := ⟨b1, 0, none⟩) fo33_0 (T rfl rfl) rfl) ?_
 have H16 := (n13.ext.blk (n8.ext.blk n3.blk))
 refine lw_v (.agg #[.int .u64 (wv3 x), .int .u64 (wv2 x), .int .u64 (wv1 x), .int .u64 (wv0 x)]) (dv_loads (l := [.int .u64 (wv3 x), .int .u64 (wv2 x), .int .u64 (wv1 x), .int .u64 (wv0 x)]) agt31 sz31 (T rfl rfl) H16 rfl) ?_
 refine lw_e (oe_callf (vs := [.agg #[.int .u64 (wv3 x), .int .u64 (wv2 x), .int .u64 (wv1 x), .int .u64 (wv0 x)]]) co70 (ar1 (T rfl rfl)) (toWide_ok (z := x)  ) ?_)
 rintro _ w17 ⟨rfl, e18⟩
 have E19 := below_ext E15 E15.size e18
 refine lw_v (.pointer (some ⟨b11, 0, none⟩)) (dv_fieldAddr (a := ⟨b11, 0, none⟩) (a' := ⟨b11, 0, none⟩) fo37_0 (T rfl rfl) rfl) ?_
 have H20 := (e18.blk n13.blk)
 refine lw_e (oe_store (v := .agg #[.int .u64 (wv3 x), .int .u64 (wv2 x), .int .u64 (wv1 x), .int .u64 (wv0 x)]) (vs := [.int .u64 (wv3 x), .int .u64 (wv2 x), .int .u64 (wv1 x), .int .u64 (wv0 x)]) (l := [.int .u64 (wv3 x), .int .u64 (wv2 x), .int .u64 (wv1 x), .int .u64 (wv0 x), .int .u64 0, .int .u64 0, .int .u64 0, .int .u64 0, .int .u64 0, .int .u64 0, .int .u64 0, .int .u64 0]) (T rfl rfl) (T rfl rfl) sz35 rfl rfl rfl H20 rfl ?_)
 intro w21 s22 H23
 have E24 := below_st E19 N14 s22
 refine lw_nil ?_
 refine rk_seq ?_
 refine rk_reg ?_
 refine lw_v (.pointer (some ⟨b1, 4, none⟩)) (dv_fieldAddr (a := ⟨b1, 0, none⟩) (a' := ⟨b1, 4, none⟩) fo33_1 (T rfl rfl) rfl) ?_
 have H25 := (s22.blk (e18.blk H16) (by omega))
 refine lw_v (.agg #[.int .u64 (wv3 y), .int .u64 (wv2 y), .int .u64 (wv1 y), .int .u64 (wv0 y)]) (dv_loads (l := [.int .u64 (wv3 y), .int .u64 (wv2 y), .int .u64 (wv1 y), .int .u64 (wv0 y)]) agt31 sz31 (T rfl rfl) H25 rfl) ?_
 refine lw_e (oe_callf (vs := [.agg #[.int .u64 (wv3 y), .int .u64 (wv2 y), .int .u64 (wv1 y), .int .u64 (wv0 y)]]) co70 (ar1 (T rfl rfl)) (toWide_ok (z := y)  ) ?_)
 rintro _ w26 ⟨rfl, e27⟩
 have E28 := below_ext E24 E24.size e27
 refine lw_v (.pointer (some ⟨b11, 4, none⟩)) (dv_fieldAddr (a := ⟨b11, 0, none⟩) (a' := ⟨b11, 4, none⟩) fo37_1 (T rfl rfl) rfl) ?_
 have H29 := (e27.blk H23)
 refine lw_e (oe_store (v := .agg #[.int .u64 (wv3 y), .int .u64 (wv2 y), .int .u64 (wv1 y), .int .u64 (wv0 y)]) (vs := [.int .u64 (wv3 y), .int .u64 (wv2 y), .int .u64 (wv1 y), .int .u64 (wv0 y)]) (l := [.int .u64 (wv3 x), .int .u64 (wv2 x), .int .u64 (wv1 x), .int .u64 (wv0 x), .int .u64 (wv3 y), .int .u64 (wv2 y), .int .u64 (wv1 y), .int .u64 (wv0 y), .int .u64 0, .int .u64 0, .int .u64 0, .int .u64 0]) (T rfl rfl) (T rfl rfl) sz35 rfl rfl rfl H29 rfl ?_)
 intro w30 s31 H32
 have E33 := below_st E28 N14 s31
 refine lw_nil ?_
 refine rk_seq ?_
 refine rk_reg ?_
 refine lw_v (.pointer (some ⟨b1, 8, none⟩)) (dv_fieldAddr (a := ⟨b1, 0, none⟩) (a' := ⟨b1, 8, none⟩) fo33_2 (T rfl rfl) rfl) ?_
 have H34 := (s31.blk (e27.blk H25) (by omega))
 refine lw_v (.agg #[.int .u64 (wv3 u), .int .u64 (wv2 u), .int .u64 (wv1 u), .int .u64 (wv0 u)]) (dv_loads (l := [.int .u64 (wv3 u), .int .u64 (wv2 u), .int .u64 (wv1 u), .int .u64 (wv0 u)]) agt31 sz31 (T rfl rfl) H34 rfl) ?_
 refine lw_e (oe_callf (vs := [.agg #[.int .u64 (wv3 u), .int .u64 (wv2 u), .int .u64 (wv1 u), .int .u64 (wv0 u)]]) co70 (ar1 (T rfl rfl)) (toWide_ok (z := u)  ) ?_)
 rintro _ w35 ⟨rfl, e36⟩
 have E37 := below_ext E33 E33.size e36
 refine lw_v (.pointer (some ⟨b11, 8, none⟩)) (dv_fieldAddr (a := ⟨b11, 0, none⟩) (a' := ⟨b11, 8, none⟩) fo37_2 (T rfl rfl) rfl) ?_
 have H38 := (e36.blk H32)
 refine lw_e (oe_store (v := .agg #[.int .u64 (wv3 u), .int .u64 (wv2 u), .int .u64 (wv1 u), .int .u64 (wv0 u)]) (vs := [.int .u64 (wv3 u), .int .u64 (wv2 u), .int .u64 (wv1 u), .int .u64 (wv0 u)]) (l := [.int .u64 (wv3 x), .int .u64 (wv2 x), .int .u64 (wv1 x), .int .u64 (wv0 x), .int .u64 (wv3 y), .int .u64 (wv2 y), .int .u64 (wv1 y), .int .u64 (wv0 y), .int .u64 (wv3 u), .int .u64 (wv2 u), .int .u64 (wv1 u), .int .u64 (wv0 u)]) (T rfl rfl) (T rfl rfl) sz35 rfl rfl rfl H38 rfl ?_)
 intro w39 s40 H41
 have E42 := below_st E37 N14 s40
 refine lw_nil ?_
 refine rk_seq ?_
 refine rk_reg ?_
 refine lw_v (.agg #[.int .u64 (wv3 x), .int .u64 (wv2 x), .int .u64 (wv1 x), .int .u64 (wv0 x), .int .u64 (wv3 y), .int .u64 (wv2 y), .int .u64 (wv1 y), .int .u64 (wv0 y), .int .u64 (wv3 u), .int .u64 (wv2 u), .int .u64 (wv1 u), .int .u64 (wv0 u)]) (dv_loads (l := [.int .u64 (wv3 x), .int .u64 (wv2 x), .int .u64 (wv1 x), .int .u64 (wv0 x), .int .u64 (wv3 y), .int .u64 (wv2 y), .int .u64 (wv1 y), .int .u64 (wv0 y), .int .u64 (wv3 u), .int .u64 (wv2 u), .int .u64 (wv1 u), .int .u64 (wv0 u)]) agt37 sz37 (T rfl rfl) H41 rfl) ?_
 have H43 := (s40.blk (e36.blk (s31.blk (e27.blk (s22.blk (e18.blk (n13.ext.blk n8.blk)) (by omega))) (by omega))) (by omega))
 refine lw_e (oe_store (v := .agg #[.int .u64 (wv3 x), .int .u64 (wv2 x), .int .u64 (wv1 x), .int .u64 (wv0 x), .int .u64 (wv3 y), .int .u64 (wv2 y), .int .u64 (wv1 y), .int .u64 (wv0 y), .int .u64 (wv3 u), .int .u64 (wv2 u), .int .u64 (wv1 u), .int .u64 (wv0 u)]) (vs := [.int .u64 (wv3 x), .int .u64 (wv2 x), .int .u64 (wv1 x), .int .u64 (wv0 x), .int .u64 (wv3 y), .int .u64 (wv2 y), .int .u64 (wv1 y), .int .u64 (wv0 y), .int .u64 (wv3 u), .int .u64 (wv2 u), .int .u64 (wv1 u), .int .u64 (wv0 u)]) (l := [.int .u64 (wv3 x), .int .u64 (wv2 x), .int .u64 (wv1 x), .int .u64 (wv0 x), .int .u64 (wv3 y), .int .u64 (wv2 y), .int .u64 (wv1 y), .int .u64 (wv0 y), .int .u64 (wv3 u), .int .u64 (wv2 u), .int .u64 (wv1 u), .int .u64 (wv0 u)]) (T rfl rfl) (T rfl rfl) sz37 rfl rfl rfl H43 rfl ?_)
 intro w44 s45 H46
 have E47 := below_st E42 N9 s45
 refine lw_nil ?_
 refine rk_ret Try.func21 (v := .agg #[.int .u64 (wv3 x), .int .u64 (wv2 x), .int .u64 (wv1 x), .int .u64 (wv0 x), .int .u64 (wv3 y), .int .u64 (wv2 y), .int .u64 (wv1 y), .int .u64 (wv0 y), .int .u64 (wv3 u), .int .u64 (wv2 u), .int .u64 (wv1 u), .int .u64 (wv0 u)]) (res1 Try.results21 (rv_cells (l := [.int .u64 (wv3 x), .int .u64 (wv2 x), .int .u64 (wv1 x), .int .u64 (wv0 x), .int .u64 (wv3 y), .int .u64 (wv2 y), .int .u64 (wv1 y), .int .u64 (wv0 y), .int .u64 (wv3 u), .int .u64 (wv2 u), .int .u64 (wv1 u), .int .u64 (wv0 u)]) agt37 sz37 rfl rfl H46 rfl)) ⟨_, rfl, ?_⟩
 exact ⟨rfl, E47⟩
set_option maxHeartbeats 1000000 in
theorem l3Small_ok {w : World}  {na : Bool} {Aa : Option Addr} {la ca : Nat} {x : Int} {sx : Nat} (ha : Num 32 183 .u32 w na Aa la ca x sx) {nb : Bool} {Ab : Option Addr} {lb cb : Nat} {y : Int} {sy : Nat} (hb : Num 32 183 .u32 w nb Ab lb cb y sy) {nm : Bool} {Am : Option Addr} {lm cm : Nat} {u : Int} {su : Nat} (hm : Num 32 183 .u32 w nm Am lm cm u su) (hbsx : sx ≤ 100000) (hbsy : sy ≤ 100000) (hbsu : su ≤ 100000)  : Ct Try.prog 127 [.agg #[.bool na, .slice Aa la ca, .bool nb, .slice Ab lb cb, .bool nm, .slice Am lm cm]] w fun v w1 => v = .bool (decide (sm3 x y u)) ∧ Ext w w1 := by
 refine ct_run (n := 22) Try.func127 rfl Try.ntmps127 rfl ?_
 have E0 : Below w.heap.size w w := Below.refl _ _
 have lha := Num.len (by decide) ha
 have lhb := Num.len (by decide) hb
 have lhm := Num.len (by decide) hm
 refine rk_seq ?_
 refine rk_reg ?_
 refine lw_e (oe_box (v := .agg #[.bool na, .slice Aa la ca, .bool nb, .slice Ab lb cb, .bool nm, .slice Am lm cm]) (cs := #[.bool na, .slice Aa la ca, .bool nb, .slice Ab lb cb, .bool nm, .slice Am lm cm]) (T rfl rfl) rfl ?_)
 intro b1 w2 n3
 have N4 : w.heap.size ≤ b1 := n3.eq ▸ E0.size
 have E5 := below_ext E0 E0.size n3.ext
 refine lw_v (.bool false) (dv_assign C) ?_
 refine lw_nil ?_
 refine rk_seq ?_
 refine rk_reg ?_
 refine lw_v (.pointer (some ⟨b1, 0, none⟩)) (dv_fieldAddr (a := ⟨b1, 0, none⟩) (a' := ⟨b1, 0, none⟩) fo102_0 (T rfl rfl) rfl) ?_
 refine lw_v (.pointer (some ⟨b1, 1, none⟩)) (dv_fieldAddr (a := ⟨b1, 0, none⟩) (a' := ⟨b1, 1, none⟩) fo100_1 (T rfl rfl) rfl) ?_
 refine lw_v (.slice Aa la ca) (dv_load1 (b := b1) (o := 1) agt98 (T rfl rfl) n3.blk rfl) ?_
 have h6 := (ha.ext n3.ext)
 refine lw_e (oe_callf (vs := [.slice Aa la ca]) co167 (ar1 (T rfl rfl)) (l1Bits_wc h6.wc (by first | omega | (simp; done) | (simp; omega))) ?_)
 rintro _ w7 ⟨rfl, e8⟩
 have E9 := below_ext E5 E5.size e8
 refine lw_v (.bool (decide (((nbits ((x.natAbs : Int)).toNat : Int)) ≤ 80))) (dv_leq (a := (nbits ((x.natAbs : Int)).toNat : Int)) (b := 80) (T rfl rfl) C) ?_
 refine lw_v (.bool (decide (((nbits ((x.natAbs : Int)).toNat : Int)) ≤ 80))) (dv_move (T rfl rfl)) ?_
 by_cases hb10 : ((nbits ((x.natAbs : Int)).toNat : Int)) ≤ 80
 · refine lw_vy (.pointer (some ⟨b1, 2, none⟩)) (d := 8) rfl rfl (congrArg Value.bool (decide_eq_true hb10)) (dv_fieldAddr (a := ⟨b1, 0, none⟩) (a' := ⟨b1, 2, none⟩) fo102_1 (T rfl rfl) rfl) ?_
   refine lw_vy (.pointer (some ⟨b1, 3, none⟩)) (d := 8) rfl rfl (congrArg Value.bool (decide_eq_true hb10)) (dv_fieldAddr (a := ⟨b1, 2, none⟩) (a' := ⟨b1, 3, none⟩) fo100_1 (T rfl rfl) rfl) ?_
   have H11 := (e8.blk n3.blk)
   refine lw_vy (.slice Ab lb cb) (d := 8) rfl rfl (congrArg Value.bool (decide_eq_true hb10)) (dv_load1 (b := b1) (o := 3) agt98 (T rfl rfl) H11 rfl) ?_
   have h12 := ((hb.ext n3.ext).ext e8)
   refine lw_ey (d := 8) rfl rfl (congrArg Value.bool (decide_eq_true hb10)) (oe_callf (vs := [.slice Ab lb cb]) co167 (ar1 (T rfl rfl)) (l1Bits_wc h12.wc (by first | omega | (simp; done) | (simp; omega))) ?_)
   rintro _ w13 ⟨rfl, e14⟩
   have E15 := below_ext E9 E9.size e14
   refine lw_vy (.bool (decide (((nbits ((y.natAbs : Int)).toNat : Int)) ≤ 80))) (d := 8) rfl rfl (congrArg Value.bool (decide_eq_true hb10)) (dv_leq (a := (nbits ((y.natAbs : Int)).toNat : Int)) (b := 80) (T rfl rfl) C) ?_
   refine lw_v (.bool (decide (((nbits ((y.natAbs : Int)).toNat : Int)) ≤ 80))) (dv_pick_t (T rfl (congrArg Value.bool (decide_eq_true hb10))) (T rfl rfl)) ?_
   refine lw_v (.bool (decide (((nbits ((y.natAbs : Int)).toNat : Int)) ≤ 80))) (dv_move (T rfl rfl)) ?_
   by_cases hb16 : ((nbits ((y.natAbs : Int)).toNat : Int)) ≤ 80
   · refine lw_vy (.pointer (some ⟨b1, 4, none⟩)) (d := 15) rfl rfl (congrArg Value.bool (decide_eq_true hb16)) (dv_fieldAddr (a := ⟨b1, 0, none⟩) (a' := ⟨b1, 4, none⟩) fo102_2 (T rfl rfl) rfl) ?_
     refine lw_vy (.pointer (some ⟨b1, 5, none⟩)) (d := 15) rfl rfl (congrArg Value.bool (decide_eq_true hb16)) (dv_fieldAddr (a := ⟨b1, 4, none⟩) (a' := ⟨b1, 5, none⟩) fo100_1 (T rfl rfl) rfl) ?_
     have H17 := (e14.blk H11)
     refine lw_vy (.slice Am lm cm) (d := 15) rfl rfl (congrArg Value.bool (decide_eq_true hb16)) (dv_load1 (b := b1) (o := 5) agt98 (T rfl rfl) H17 rfl) ?_
     have h18 := (((hm.ext n3.ext).ext e8).ext e14)
     refine lw_ey (d := 15) rfl rfl (congrArg Value.bool (decide_eq_true hb16)) (oe_callf (vs := [.slice Am lm cm]) co167 (ar1 (T rfl rfl)) (l1Bits_wc h18.wc (by first | omega | (simp; done) | (simp; omega))) ?_)
     rintro _ w19 ⟨rfl, e20⟩
     have E21 := below_ext E15 E15.size e20
     refine lw_vy (.bool (decide (((nbits ((u.natAbs : Int)).toNat : Int)) ≤ 80))) (d := 15) rfl rfl (congrArg Value.bool (decide_eq_true hb16)) (dv_leq (a := (nbits ((u.natAbs : Int)).toNat : Int)) (b := 80) (T rfl rfl) C) ?_
     refine lw_v (.bool (decide (((nbits ((u.natAbs : Int)).toNat : Int)) ≤ 80))) (dv_pick_t (T rfl (congrArg Value.bool (decide_eq_true hb16))) (T rfl rfl)) ?_
     refine lw_v (.bool (decide (((nbits ((u.natAbs : Int)).toNat : Int)) ≤ 80))) (dv_assign (T rfl rfl)) ?_
     refine lw_nil ?_
     refine rk_ret Try.func127 (v := .bool (decide (((nbits ((u.natAbs : Int)).toNat : Int)) ≤ 80))) (res1 Try.results127 (rv_tmp rfl rfl)) ⟨_, rfl, ?_⟩
     exact ⟨(vb (by unfold sm3; omega)), E21⟩
   · refine lw_no (d := 15) rfl rfl (congrArg Value.bool (decide_eq_false hb16)) ?_
     refine lw_no (d := 15) rfl rfl (congrArg Value.bool (decide_eq_false hb16)) ?_
     refine lw_no (d := 15) rfl rfl (congrArg Value.bool (decide_eq_false hb16)) ?_
     refine lw_no (d := 15) rfl rfl (congrArg Value.bool (decide_eq_false hb16)) ?_
     refine lw_no (d := 15) rfl rfl (congrArg Value.bool (decide_eq_false hb16)) ?_
     refine lw_v (.bool false) (dv_pick_f (T rfl (congrArg Value.bool (decide_eq_false hb16))) C) ?_
     refine lw_v (.bool false) (dv_assign (T rfl rfl)) ?_
     refine lw_nil ?_
     refine rk_ret Try.func127 (v := .bool false) (res1 Try.results127 (rv_tmp rfl rfl)) ⟨_, rfl, ?_⟩
     exact ⟨(vf (by unfold sm3; omega)), E15⟩
 · refine lw_no (d := 8) rfl rfl (congrArg Value.bool (decide_eq_false hb10)) ?_
   refine lw_no (d := 8) rfl rfl (congrArg Value.bool (decide_eq_false hb10)) ?_
   refine lw_no (d := 8) rfl rfl (congrArg Value.bool (decide_eq_false hb10)) ?_
   refine lw_no (d := 8) rfl rfl (congrArg Value.bool (decide_eq_false hb10)) ?_
   refine lw_no (d := 8) rfl rfl (congrArg Value.bool (decide_eq_false hb10)) ?_
   refine lw_v (.bool false) (dv_pick_f (T rfl (congrArg Value.bool (decide_eq_false hb10))) C) ?_
   refine lw_v (.bool false) (dv_move (T rfl rfl)) ?_
   refine lw_no (d := 15) rfl rfl (rfl) ?_
   refine lw_no (d := 15) rfl rfl (rfl) ?_
   refine lw_no (d := 15) rfl rfl (rfl) ?_
   refine lw_no (d := 15) rfl rfl (rfl) ?_
   refine lw_no (d := 15) rfl rfl (rfl) ?_
   refine lw_v (.bool false) (dv_pick_f (T rfl rfl) C) ?_
   refine lw_v (.bool false) (dv_assign (T rfl rfl)) ?_
   refine lw_nil ?_
   refine rk_ret Try.func127 (v := .bool false) (res1 Try.results127 (rv_tmp rfl rfl)) ⟨_, rfl, ?_⟩
   exact ⟨(vf (by unfold sm3; omega)), E9⟩
set_option maxHeartbeats 1000000 in
theorem spot_ok {w : World}  {x y u : Int} (fx_ : fits x) (fy_ : fits y) (fu_ : fits u)   : Ct Try.prog 90 [.agg #[.int .u64 (wv3 x), .int .u64 (wv2 x), .int .u64 (wv1 x), .int .u64 (wv0 x), .int .u64 (wv3 y), .int .u64 (wv2 y), .int .u64 (wv1 y), .int .u64 (wv0 y), .int .u64 (wv3 u), .int .u64 (wv2 u), .int .u64 (wv1 u), .int .u64 (wv0 u)]] w fun v w1 => ∃ nr0_ A0_ l0_ c0_ nr1_ A1_ l1_ c1_ nr2_ A2_ l2_ c2_, v = .agg #[.bool nr0_, .slice A0_ l0_ c0_, .bool nr1_, .slice A1_ l1_ c1_, .bool nr2_, .slice A2_ l2_ c2_] ∧ Ext w w1 ∧ Num 64 29 .u64 w1 nr0_ A0_ l0_ c0_ (x) (256) ∧ Num 64 29 .u64 w1 nr1_ A1_ l1_ c1_ (y) (256) ∧ Num 64 29 .u64 w1 nr2_ A2_ l2_ c2_ (u) (256) := by
 refine ct_run (n := 13) Try.func90 rfl Try.ntmps90 rfl ?_
 have E0 : Below w.heap.size w w := Below.refl _ _
 refine rk_seq ?_
 refine rk_reg ?_
 refine lw_e (oe_box (v := .agg #[.int .u64 (wv3 x), .int .u64 (wv2 x), .int .u64 (wv1 x), .int .u64 (wv0 x), .int .u64 (wv3 y), .int .u64 (wv2 y), .int .u64 (wv1 y), .int .u64 (wv0 y), .int .u64 (wv3 u), .int .u64 (wv2 u), .int .u64 (wv1 u), .int .u64 (wv0 u)]) (cs := #[.int .u64 (wv3 x), .int .u64 (wv2 x), .int .u64 (wv1 x), .int .u64 (wv0 x), .int .u64 (wv3 y), .int .u64 (wv2 y), .int .u64 (wv1 y), .int .u64 (wv0 y), .int .u64 (wv3 u), .int .u64 (wv2 u), .int .u64 (wv1 u), .int .u64 (wv0 u)]) (T rfl rfl) rfl ?_)
 intro b1 w2 n3
 have N4 : w.heap.size ≤ b1 := n3.eq ▸ E0.size
 have E5 := below_ext E0 E0.size n3.ext
 refine lw_e (oe_alloc ze122 ?_)
 intro b6 w7 n8
 have N9 : w.heap.size ≤ b6 := n8.eq ▸ E5.size
 have : b1 < b6 := n8.eq ▸ lt_of_blk n3.blk
 have E10 := below_ext E5 E5.size n8.ext
 refine lw_nil ?_
 refine rk_seq ?_
 refine rk_any (fun w => w.heap[b1]? = some (.cells #[.int .u64 (wv3 x), .int .u64 (wv2 x), .int .u64 (wv1 x), .int .u64 (wv0 x), .int .u64 (wv3 y), .int .u64 (wv2 y), .int .u64 (wv1 y), .int .u64 (wv0 y), .int .u64 (wv3 u), .int .u64 (wv2 u), .int .u64 (wv1 u), .int .u64 (wv0 u)] 37)) [10] mo ?_
 intro w11 d12
 have E13 := below_ext E10 E10.size d12.ext
 have H14 := (d12.ext.blk (n8.ext.blk n3.blk))
 refine aw_pure 0 (.pointer (some ⟨b1, 0, none⟩)) rfl (by kernel_rfl) .none H14 (fun _ => dv_fieldAddr (a := ⟨b1, 0, none⟩) (a' := ⟨b1, 0, none⟩) fo37_0 (T rfl rfl) rfl) ?_
 refine aw_load 1 (.agg #[.int .u64 (wv3 x), .int .u64 (wv2 x), .int .u64 (wv1 x), .int .u64 (wv0 x)]) rfl (by kernel_rfl) .none H14 (fun _ s => dv_loads (l := [.int .u64 (wv3 x), .int .u64 (wv2 x), .int .u64 (wv1 x), .int .u64 (wv0 x)]) agt35 sz35 (T rfl rfl) s rfl) ?_
 refine aw_pure 3 (.pointer (some ⟨b1, 4, none⟩)) rfl (by kernel_rfl) .none H14 (fun _ => dv_fieldAddr (a := ⟨b1, 0, none⟩) (a' := ⟨b1, 4, none⟩) fo37_1 (T rfl rfl) rfl) ?_
 refine aw_load 4 (.agg #[.int .u64 (wv3 y), .int .u64 (wv2 y), .int .u64 (wv1 y), .int .u64 (wv0 y)]) rfl (by kernel_rfl) .none H14 (fun _ s => dv_loads (l := [.int .u64 (wv3 y), .int .u64 (wv2 y), .int .u64 (wv1 y), .int .u64 (wv0 y)]) agt35 sz35 (T rfl rfl) s rfl) ?_
 refine aw_pure 6 (.pointer (some ⟨b1, 8, none⟩)) rfl (by kernel_rfl) .none H14 (fun _ => dv_fieldAddr (a := ⟨b1, 0, none⟩) (a' := ⟨b1, 8, none⟩) fo37_2 (T rfl rfl) rfl) ?_
 refine aw_load 7 (.agg #[.int .u64 (wv3 u), .int .u64 (wv2 u), .int .u64 (wv1 u), .int .u64 (wv0 u)]) rfl (by kernel_rfl) .none H14 (fun _ s => dv_loads (l := [.int .u64 (wv3 u), .int .u64 (wv2 u), .int .u64 (wv1 u), .int .u64 (wv0 u)]) agt35 sz35 (T rfl rfl) s rfl) ?_
 refine aw_one 2 rfl (by kernel_rfl) .none (oe_callf (vs := [.agg #[.int .u64 (wv3 x), .int .u64 (wv2 x), .int .u64 (wv1 x), .int .u64 (wv0 x)]]) co146 (ar1 (T rfl rfl)) (wnumz_ok (z := x) fx_) ?_)
 rintro _ w20 ⟨nr15, A16, n17, c18, rfl, e21, h19⟩
 have E22 := below_ext E13 E13.size e21
 have lh19 := Num.len (by decide) h19
 have H23 := (e21.blk H14)
 refine ⟨.inr H23, ?_⟩
 refine aw_one 5 rfl (by kernel_rfl) .none (oe_callf (vs := [.agg #[.int .u64 (wv3 y), .int .u64 (wv2 y), .int .u64 (wv1 y), .int .u64 (wv0 y)]]) co146 (ar1 (T rfl rfl)) (wnumz_ok (z := y) fy_) ?_)
 rintro _ w29 ⟨nr24, A25, n26, c27, rfl, e30, h28⟩
 have E31 := below_ext E22 E22.size e30
 have lh28 := Num.len (by decide) h28
 have H32 := (e30.blk H23)
 refine ⟨.inr H32, ?_⟩
 refine aw_one 8 rfl (by kernel_rfl) .none (oe_callf (vs := [.agg #[.int .u64 (wv3 u), .int .u64 (wv2 u), .int .u64 (wv1 u), .int .u64 (wv0 u)]]) co146 (ar1 (T rfl rfl)) (wnumz_ok (z := u) fu_) ?_)
 rintro _ w38 ⟨nr33, A34, n35, c36, rfl, e39, h37⟩
 have E40 := below_ext E31 E31.size e39
 have lh37 := Num.len (by decide) h37
 have H41 := (e39.blk H32)
 refine ⟨.inr H41, ?_⟩
 refine aw_pure 9 (.agg #[.bool nr15, .slice A16 n17 c18, .bool nr24, .slice A25 n26 c27, .bool nr33, .slice A34 n35 c36]) rfl (by kernel_rfl) .none H41 (fun _ => dv_build (pv := [(0, .agg #[.bool nr15, .slice A16 n17 c18]), (1, .agg #[.bool nr24, .slice A25 n26 c27]), (2, .agg #[.bool nr33, .slice A34 n35 c36])]) (l := [.bool nr15, .slice A16 n17 c18, .bool nr24, .slice A25 n26 c27, .bool nr33, .slice A34 n35 c36]) zc122 pl122 ⟨rfl, (T rfl rfl), ⟨rfl, (T rfl rfl), ⟨rfl, (T rfl rfl), trivial⟩⟩⟩ rfl) ?_
 have H42 := (e39.blk (e30.blk (e21.blk (d12.ext.blk n8.blk))))
 refine aw_one 10 rfl (by kernel_rfl) .none (oe_store (v := .agg #[.bool nr15, .slice A16 n17 c18, .bool nr24, .slice A25 n26 c27, .bool nr33, .slice A34 n35 c36]) (vs := [.bool nr15, .slice A16 n17 c18, .bool nr24, .slice A25 n26 c27, .bool nr33, .slice A34 n35 c36]) (l := [.bool nr15, .slice A16 n17 c18, .bool nr24, .slice A25 n26 c27, .bool nr33, .slice A34 n35 c36]) (T rfl rfl) (T rfl rfl) sz122 rfl rfl rfl H42 rfl ?_)
 intro w43 s44 H45
 have E46 := below_st E40 N9 s44
 refine ⟨.inl rfl, ?_⟩
 refine aw_done (by kernel_rfl) ?_
 refine rk_ret Try.func90 (v := .agg #[.bool nr15, .slice A16 n17 c18, .bool nr24, .slice A25 n26 c27, .bool nr33, .slice A34 n35 c36]) (res1 Try.results90 (rv_cells (l := [.bool nr15, .slice A16 n17 c18, .bool nr24, .slice A25 n26 c27, .bool nr33, .slice A34 n35 c36]) agt122 sz122 rfl rfl H45 rfl)) ⟨_, rfl, ?_⟩
 have h47 := (((h19.ext e30).ext e39).st s44 H42 (by decide))
 have h48 := ((h28.ext e39).st s44 H42 (by decide))
 have h49 := (h37.st s44 H42 (by decide))
 exact ⟨_, _, _, _, _, _, _, _, _, _, _, _, rfl, E46, h47.to rfl (Nat.le_refl _), h48.to rfl (Nat.le_refl _), h49.to rfl (Nat.le_refl _)⟩
set_option maxHeartbeats 1000000 in
theorem l3Of_ok {w : World}  {x y u : Int} (fx_ : fits x) (fy_ : fits y) (fu_ : fits u)   : Ct Try.prog 69 [.agg #[.int .u64 (wv3 x), .int .u64 (wv2 x), .int .u64 (wv1 x), .int .u64 (wv0 x), .int .u64 (wv3 y), .int .u64 (wv2 y), .int .u64 (wv1 y), .int .u64 (wv0 y), .int .u64 (wv3 u), .int .u64 (wv2 u), .int .u64 (wv1 u), .int .u64 (wv0 u)]] w fun v w1 => ∃ nr0_ A0_ l0_ c0_ nr1_ A1_ l1_ c1_ nr2_ A2_ l2_ c2_, v = .agg #[.bool nr0_, .slice A0_ l0_ c0_, .bool nr1_, .slice A1_ l1_ c1_, .bool nr2_, .slice A2_ l2_ c2_] ∧ Ext w w1 ∧ Num 32 183 .u32 w1 nr0_ A0_ l0_ c0_ (x) (256) ∧ Num 32 183 .u32 w1 nr1_ A1_ l1_ c1_ (y) (256) ∧ Num 32 183 .u32 w1 nr2_ A2_ l2_ c2_ (u) (256) := by
 refine ct_run (n := 13) Try.func69 rfl Try.ntmps69 rfl ?_
 have E0 : Below w.heap.size w w := Below.refl _ _
 refine rk_seq ?_
 refine rk_reg ?_
 refine lw_e (oe_box (v := .agg #[.int .u64 (wv3 x), .int .u64 (wv2 x), .int .u64 (wv1 x), .int .u64 (wv0 x), .int .u64 (wv3 y), .int .u64 (wv2 y), .int .u64 (wv1 y), .int .u64 (wv0 y), .int .u64 (wv3 u), .int .u64 (wv2 u), .int .u64 (wv1 u), .int .u64 (wv0 u)]) (cs := #[.int .u64 (wv3 x), .int .u64 (wv2 x), .int .u64 (wv1 x), .int .u64 (wv0 x), .int .u64 (wv3 y), .int .u64 (wv2 y), .int .u64 (wv1 y), .int .u64 (wv0 y), .int .u64 (wv3 u), .int .u64 (wv2 u), .int .u64 (wv1 u), .int .u64 (wv0 u)]) (T rfl rfl) rfl ?_)
 intro b1 w2 n3
 have N4 : w.heap.size ≤ b1 := n3.eq ▸ E0.size
 have E5 := below_ext E0 E0.size n3.ext
 refine lw_e (oe_alloc ze102 ?_)
 intro b6 w7 n8
 have N9 : w.heap.size ≤ b6 := n8.eq ▸ E5.size
 have : b1 < b6 := n8.eq ▸ lt_of_blk n3.blk
 have E10 := below_ext E5 E5.size n8.ext
 refine lw_nil ?_
 refine rk_seq ?_
 refine rk_any (fun w => w.heap[b1]? = some (.cells #[.int .u64 (wv3 x), .int .u64 (wv2 x), .int .u64 (wv1 x), .int .u64 (wv0 x), .int .u64 (wv3 y), .int .u64 (wv2 y), .int .u64 (wv1 y), .int .u64 (wv0 y), .int .u64 (wv3 u), .int .u64 (wv2 u), .int .u64 (wv1 u), .int .u64 (wv0 u)] 37)) [10] mo ?_
 intro w11 d12
 have E13 := below_ext E10 E10.size d12.ext
 have H14 := (d12.ext.blk (n8.ext.blk n3.blk))
 refine aw_pure 0 (.pointer (some ⟨b1, 0, none⟩)) rfl (by kernel_rfl) .none H14 (fun _ => dv_fieldAddr (a := ⟨b1, 0, none⟩) (a' := ⟨b1, 0, none⟩) fo37_0 (T rfl rfl) rfl) ?_
 refine aw_load 1 (.agg #[.int .u64 (wv3 x), .int .u64 (wv2 x), .int .u64 (wv1 x), .int .u64 (wv0 x)]) rfl (by kernel_rfl) .none H14 (fun _ s => dv_loads (l := [.int .u64 (wv3 x), .int .u64 (wv2 x), .int .u64 (wv1 x), .int .u64 (wv0 x)]) agt35 sz35 (T rfl rfl) s rfl) ?_
 refine aw_pure 3 (.pointer (some ⟨b1, 4, none⟩)) rfl (by kernel_rfl) .none H14 (fun _ => dv_fieldAddr (a := ⟨b1, 0, none⟩) (a' := ⟨b1, 4, none⟩) fo37_1 (T rfl rfl) rfl) ?_
 refine aw_load 4 (.agg #[.int .u64 (wv3 y), .int .u64 (wv2 y), .int .u64 (wv1 y), .int .u64 (wv0 y)]) rfl (by kernel_rfl) .none H14 (fun _ s => dv_loads (l := [.int .u64 (wv3 y), .int .u64 (wv2 y), .int .u64 (wv1 y), .int .u64 (wv0 y)]) agt35 sz35 (T rfl rfl) s rfl) ?_
 refine aw_pure 6 (.pointer (some ⟨b1, 8, none⟩)) rfl (by kernel_rfl) .none H14 (fun _ => dv_fieldAddr (a := ⟨b1, 0, none⟩) (a' := ⟨b1, 8, none⟩) fo37_2 (T rfl rfl) rfl) ?_
 refine aw_load 7 (.agg #[.int .u64 (wv3 u), .int .u64 (wv2 u), .int .u64 (wv1 u), .int .u64 (wv0 u)]) rfl (by kernel_rfl) .none H14 (fun _ s => dv_loads (l := [.int .u64 (wv3 u), .int .u64 (wv2 u), .int .u64 (wv1 u), .int .u64 (wv0 u)]) agt35 sz35 (T rfl rfl) s rfl) ?_
 refine aw_one 2 rfl (by kernel_rfl) .none (oe_callf (vs := [.agg #[.int .u64 (wv3 x), .int .u64 (wv2 x), .int .u64 (wv1 x), .int .u64 (wv0 x)]]) co130 (ar1 (T rfl rfl)) (l1Fromz_ok (z := x) fx_) ?_)
 rintro _ w20 ⟨nr15, A16, n17, c18, rfl, e21, h19⟩
 have E22 := below_ext E13 E13.size e21
 have lh19 := Num.len (by decide) h19
 have H23 := (e21.blk H14)
 refine ⟨.inr H23, ?_⟩
 refine aw_one 5 rfl (by kernel_rfl) .none (oe_callf (vs := [.agg #[.int .u64 (wv3 y), .int .u64 (wv2 y), .int .u64 (wv1 y), .int .u64 (wv0 y)]]) co130 (ar1 (T rfl rfl)) (l1Fromz_ok (z := y) fy_) ?_)
 rintro _ w29 ⟨nr24, A25, n26, c27, rfl, e30, h28⟩
 have E31 := below_ext E22 E22.size e30
 have lh28 := Num.len (by decide) h28
 have H32 := (e30.blk H23)
 refine ⟨.inr H32, ?_⟩
 refine aw_one 8 rfl (by kernel_rfl) .none (oe_callf (vs := [.agg #[.int .u64 (wv3 u), .int .u64 (wv2 u), .int .u64 (wv1 u), .int .u64 (wv0 u)]]) co130 (ar1 (T rfl rfl)) (l1Fromz_ok (z := u) fu_) ?_)
 rintro _ w38 ⟨nr33, A34, n35, c36, rfl, e39, h37⟩
 have E40 := below_ext E31 E31.size e39
 have lh37 := Num.len (by decide) h37
 have H41 := (e39.blk H32)
 refine ⟨.inr H41, ?_⟩
 refine aw_pure 9 (.agg #[.bool nr15, .slice A16 n17 c18, .bool nr24, .slice A25 n26 c27, .bool nr33, .slice A34 n35 c36]) rfl (by kernel_rfl) .none H41 (fun _ => dv_build (pv := [(0, .agg #[.bool nr15, .slice A16 n17 c18]), (1, .agg #[.bool nr24, .slice A25 n26 c27]), (2, .agg #[.bool nr33, .slice A34 n35 c36])]) (l := [.bool nr15, .slice A16 n17 c18, .bool nr24, .slice A25 n26 c27, .bool nr33, .slice A34 n35 c36]) zc102 pl102 ⟨rfl, (T rfl rfl), ⟨rfl, (T rfl rfl), ⟨rfl, (T rfl rfl), trivial⟩⟩⟩ rfl) ?_
 have H42 := (e39.blk (e30.blk (e21.blk (d12.ext.blk n8.blk))))
 refine aw_one 10 rfl (by kernel_rfl) .none (oe_store (v := .agg #[.bool nr15, .slice A16 n17 c18, .bool nr24, .slice A25 n26 c27, .bool nr33, .slice A34 n35 c36]) (vs := [.bool nr15, .slice A16 n17 c18, .bool nr24, .slice A25 n26 c27, .bool nr33, .slice A34 n35 c36]) (l := [.bool nr15, .slice A16 n17 c18, .bool nr24, .slice A25 n26 c27, .bool nr33, .slice A34 n35 c36]) (T rfl rfl) (T rfl rfl) sz102 rfl rfl rfl H42 rfl ?_)
 intro w43 s44 H45
 have E46 := below_st E40 N9 s44
 refine ⟨.inl rfl, ?_⟩
 refine aw_done (by kernel_rfl) ?_
 refine rk_ret Try.func69 (v := .agg #[.bool nr15, .slice A16 n17 c18, .bool nr24, .slice A25 n26 c27, .bool nr33, .slice A34 n35 c36]) (res1 Try.results69 (rv_cells (l := [.bool nr15, .slice A16 n17 c18, .bool nr24, .slice A25 n26 c27, .bool nr33, .slice A34 n35 c36]) agt102 sz102 rfl rfl H45 rfl)) ⟨_, rfl, ?_⟩
 have h47 := (((h19.ext e30).ext e39).st s44 H42 (by decide))
 have h48 := ((h28.ext e39).st s44 H42 (by decide))
 have h49 := (h37.st s44 H42 (by decide))
 exact ⟨_, _, _, _, _, _, _, _, _, _, _, _, rfl, E46, h47.to rfl (Nat.le_refl _), h48.to rfl (Nat.le_refl _), h49.to rfl (Nat.le_refl _)⟩
set_option maxHeartbeats 1000000 in
theorem sPointOk_ok {w : World} {x y u : Int} (fx_ : fits x) (fy_ : fits y) (fu_ : fits u)  : Ct Try.prog 67 [.agg #[.int .u64 (wv3 x), .int .u64 (wv2 x), .int .u64 (wv1 x), .int .u64 (wv0 x), .int .u64 (wv3 y), .int .u64 (wv2 y), .int .u64 (wv1 y), .int .u64 (wv0 y), .int .u64 (wv3 u), .int .u64 (wv2 u), .int .u64 (wv1 u), .int .u64 (wv0 u)]] w fun v w1 => v = .bool (decide (pOk x y u)) ∧ Ext w w1 := by
 refine ct_run (n := 27) Try.func67 rfl Try.ntmps67 rfl ?_
 have E0 : Below w.heap.size w w := Below.refl _ _
 refine rk_seq ?_
 refine rk_reg ?_
 refine lw_e (oe_box (v := .agg #[.int .u64 (wv3 x), .int .u64 (wv2 x), .int .u64 (wv1 x), .int .u64 (wv0 x), .int .u64 (wv3 y), .int .u64 (wv2 y), .int .u64 (wv1 y), .int .u64 (wv0 y), .int .u64 (wv3 u), .int .u64 (wv2 u), .int .u64 (wv1 u), .int .u64 (wv0 u)]) (cs := #[.int .u64 (wv3 x), .int .u64 (wv2 x), .int .u64 (wv1 x), .int .u64 (wv0 x), .int .u64 (wv3 y), .int .u64 (wv2 y), .int .u64 (wv1 y), .int .u64 (wv0 y), .int .u64 (wv3 u), .int .u64 (wv2 u), .int .u64 (wv1 u), .int .u64 (wv0 u)]) (T rfl rfl) rfl ?_)
 intro b1 w2 n3
 have N4 : w.heap.size ≤ b1 := n3.eq ▸ E0.size
 have E5 := below_ext E0 E0.size n3.ext
 refine lw_v (.bool false) (dv_assign C) ?_
 refine lw_nil ?_
 refine rk_seq ?_
 refine rk_reg ?_
 refine lw_v (.agg #[.int .u64 (wv3 x), .int .u64 (wv2 x), .int .u64 (wv1 x), .int .u64 (wv0 x), .int .u64 (wv3 y), .int .u64 (wv2 y), .int .u64 (wv1 y), .int .u64 (wv0 y), .int .u64 (wv3 u), .int .u64 (wv2 u), .int .u64 (wv1 u), .int .u64 (wv0 u)]) (dv_loads (l := [.int .u64 (wv3 x), .int .u64 (wv2 x), .int .u64 (wv1 x), .int .u64 (wv0 x), .int .u64 (wv3 y), .int .u64 (wv2 y), .int .u64 (wv1 y), .int .u64 (wv0 y), .int .u64 (wv3 u), .int .u64 (wv2 u), .int .u64 (wv1 u), .int .u64 (wv0 u)]) agt37 sz37 (T rfl rfl) n3.blk rfl) ?_
 refine lw_e (oe_callf (vs := [.agg #[.int .u64 (wv3 x), .int .u64 (wv2 x), .int .u64 (wv1 x), .int .u64 (wv0 x), .int .u64 (wv3 y), .int .u64 (wv2 y), .int .u64 (wv1 y), .int .u64 (wv0 y), .int .u64 (wv3 u), .int .u64 (wv2 u), .int .u64 (wv1 u), .int .u64 (wv0 u)]]) co69 (ar1 (T rfl rfl)) (l3Of_ok fx_ fy_ fu_  ) ?_)
 rintro _ w21 ⟨nr6, A7, n8, c9, nr10, A11, n12, c13, nr14, A15, n16, c17, rfl, e22, h18, h19, h20⟩
 have E23 := below_ext E5 E5.size e22
 have lh18 := Num.len (by decide) h18
 have lh19 := Num.len (by decide) h19
 have lh20 := Num.len (by decide) h20
 refine lw_e (oe_alloc ze102 ?_)
 intro b24 w25 n26
 have N27 : w.heap.size ≤ b24 := n26.eq ▸ E23.size
 have H28 := (e22.blk n3.blk)
 have : b1 < b24 := n26.eq ▸ lt_of_blk H28
 have E29 := below_ext E23 E23.size n26.ext
 refine lw_e (oe_store (v := .agg #[.bool nr6, .slice A7 n8 c9, .bool nr10, .slice A11 n12 c13, .bool nr14, .slice A15 n16 c17]) (vs := [.bool nr6, .slice A7 n8 c9, .bool nr10, .slice A11 n12 c13, .bool nr14, .slice A15 n16 c17]) (l := [.bool nr6, .slice A7 n8 c9, .bool nr10, .slice A11 n12 c13, .bool nr14, .slice A15 n16 c17]) (T rfl rfl) (T rfl rfl) sz102 rfl rfl rfl n26.blk rfl ?_)
 intro w30 s31 H32
 have E33 := below_st E29 N27 s31
 refine lw_nil ?_
 refine rk_seq ?_
 refine rk_any (fun w => w.heap[b24]? = some (.cells #[.bool nr6, .slice A7 n8 c9, .bool nr10, .slice A11 n12 c13, .bool nr14, .slice A15 n16 c17] 102)) [21] mo ?_
 intro w34 d35
 have E36 := below_ext E33 E33.size d35.ext
 have H37 := (d35.ext.blk H32)
 refine aw_pure 0 (.pointer (some ⟨b24, 4, none⟩)) rfl (by kernel_rfl) .none H37 (fun _ => dv_fieldAddr (a := ⟨b24, 0, none⟩) (a' := ⟨b24, 4, none⟩) fo102_2 (T rfl rfl) rfl) ?_
 refine aw_load 1 (.agg #[.bool nr14, .slice A15 n16 c17]) rfl (by kernel_rfl) .none H37 (fun _ s => dv_loads (l := [.bool nr14, .slice A15 n16 c17]) agt100 sz100 (T rfl rfl) s rfl) ?_
 have h38 := (((h20.ext n26.ext).st s31 n26.blk (by decide)).ext d35.ext)
 refine aw_one 2 rfl (by kernel_rfl) .none (oe_callf (vs := [.agg #[.bool nr14, .slice A15 n16 c17]]) co126 (ar1 (T rfl rfl)) (l1Sign_ok h38 ) ?_)
 rintro _ w39 ⟨rfl, e40⟩
 have E41 := below_ext E36 E36.size e40
 have H42 := (e40.blk H37)
 refine ⟨.inr H42, ?_⟩
 refine aw_pure 3 (.bool (decide (0 < (sgnI u)))) rfl (by kernel_rfl) .none H42 (fun _ => dv_gtr (a := sgnI u) (b := 0) (T rfl rfl) C) ?_
 refine aw_pure 4 (.bool (decide (0 < (sgnI u)))) rfl (by kernel_rfl) .none H42 (fun _ => dv_move (T rfl rfl)) ?_
 by_cases hb43 : 0 < (sgnI u)
 · refine aw_load 5 (.agg #[.bool nr6, .slice A7 n8 c9, .bool nr10, .slice A11 n12 c13, .bool nr14, .slice A15 n16 c17]) rfl (by kernel_rfl) (.yes (d := 10) rfl rfl (congrArg Value.bool (decide_eq_true hb43))) H42 (fun _ s => dv_loads (l := [.bool nr6, .slice A7 n8 c9, .bool nr10, .slice A11 n12 c13, .bool nr14, .slice A15 n16 c17]) agt102 sz102 (T rfl rfl) s rfl) ?_
   have h44 := ((((h18.ext n26.ext).st s31 n26.blk (by decide)).ext d35.ext).ext e40)
   have h45 := ((((h19.ext n26.ext).st s31 n26.blk (by decide)).ext d35.ext).ext e40)
   have h46 := (h38.ext e40)
   refine aw_one 6 rfl (by kernel_rfl) (.yes (d := 10) rfl rfl (congrArg Value.bool (decide_eq_true hb43))) (oe_callf (vs := [.agg #[.bool nr6, .slice A7 n8 c9, .bool nr10, .slice A11 n12 c13, .bool nr14, .slice A15 n16 c17]]) co127 (ar1 (T rfl rfl)) (l3Small_ok h44 h45 h46 (by first | decide | omega) (by first | decide | omega) (by first | decide | omega) ) ?_)
   rintro _ w47 ⟨rfl, e48⟩
   have E49 := below_ext E41 E41.size e48
   have H50 := (e48.blk H42)
   refine ⟨.inr H50, ?_⟩
   refine aw_pure 7 (.bool (decide (sm3 x y u))) rfl (by kernel_rfl) .none H50 (fun _ => dv_pick_t (T rfl (congrArg Value.bool (decide_eq_true hb43))) (T rfl rfl)) ?_
   refine aw_pure 8 (.bool (decide (sm3 x y u))) rfl (by kernel_rfl) .none H50 (fun _ => dv_move (T rfl rfl)) ?_
   by_cases hb51 : sm3 x y u
   · refine aw_pure 9 (.pointer (some ⟨b24, 0, none⟩)) rfl (by kernel_rfl) (.yes (d := 14) rfl rfl (congrArg Value.bool (decide_eq_true hb51))) H50 (fun _ => dv_fieldAddr (a := ⟨b24, 0, none⟩) (a' := ⟨b24, 0, none⟩) fo102_0 (T rfl rfl) rfl) ?_
     refine aw_load 10 (.agg #[.bool nr6, .slice A7 n8 c9]) rfl (by kernel_rfl) (.yes (d := 14) rfl rfl (congrArg Value.bool (decide_eq_true hb51))) H50 (fun _ s => dv_loads (l := [.bool nr6, .slice A7 n8 c9]) agt100 sz100 (T rfl rfl) s rfl) ?_
     refine aw_pure 11 (.pointer (some ⟨b24, 2, none⟩)) rfl (by kernel_rfl) (.yes (d := 14) rfl rfl (congrArg Value.bool (decide_eq_true hb51))) H50 (fun _ => dv_fieldAddr (a := ⟨b24, 0, none⟩) (a' := ⟨b24, 2, none⟩) fo102_1 (T rfl rfl) rfl) ?_
     refine aw_load 12 (.agg #[.bool nr10, .slice A11 n12 c13]) rfl (by kernel_rfl) (.yes (d := 14) rfl rfl (congrArg Value.bool (decide_eq_true hb51))) H50 (fun _ s => dv_loads (l := [.bool nr10, .slice A11 n12 c13]) agt100 sz100 (T rfl rfl) s rfl) ?_
     refine aw_pure 14 (.pointer (some ⟨b24, 4, none⟩)) rfl (by kernel_rfl) (.yes (d := 14) rfl rfl (congrArg Value.bool (decide_eq_true hb51))) H50 (fun _ => dv_fieldAddr (a := ⟨b24, 0, none⟩) (a' := ⟨b24, 4, none⟩) fo102_2 (T rfl rfl) rfl) ?_
     refine aw_load 15 (.agg #[.bool nr14, .slice A15 n16 c17]) rfl (by kernel_rfl) (.yes (d := 14) rfl rfl (congrArg Value.bool (decide_eq_true hb51))) H50 (fun _ s => dv_loads (l := [.bool nr14, .slice A15 n16 c17]) agt100 sz100 (T rfl rfl) s rfl) ?_
     have h52 := (h44.ext e48)
     have h53 := (h45.ext e48)
     refine aw_one 13 rfl (by kernel_rfl) (.yes (d := 14) rfl rfl (congrArg Value.bool (decide_eq_true hb51))) (oe_callf (vs := [.agg #[.bool nr6, .slice A7 n8 c9], .agg #[.bool nr10, .slice A11 n12 c13]]) co129 (ar2 (T rfl rfl) (T rfl rfl)) (l1Gcd_ok h52 h53 (by first | decide | omega) (by first | decide | omega)) ?_)
     rintro _ w59 ⟨nr54, A55, n56, c57, rfl, e60, h58⟩
     have E61 := below_ext E49 E49.size e60
     have lh58 := Num.len (by decide) h58
     have H62 := (e60.blk H50)
     refine ⟨.inr H62, ?_⟩
     have h63 := ((h46.ext e48).ext e60)
     refine aw_one 16 rfl (by kernel_rfl) (.yes (d := 14) rfl rfl (congrArg Value.bool (decide_eq_true hb51))) (oe_callf (vs := [.agg #[.bool nr54, .slice A55 n56 c57], .agg #[.bool nr14, .slice A15 n16 c17]]) co129 (ar2 (T rfl rfl) (T rfl rfl)) (l1Gcd_ok h58 h63 (by first | decide | omega) (by first | decide | omega)) ?_)
     rintro _ w69 ⟨nr64, A65, n66, c67, rfl, e70, h68⟩
     have E71 := below_ext E61 E61.size e70
     have lh68 := Num.len (by decide) h68
     have H72 := (e70.blk H62)
     refine ⟨.inr H72, ?_⟩
     refine aw_one 17 rfl (by kernel_rfl) (.yes (d := 14) rfl rfl (congrArg Value.bool (decide_eq_true hb51))) (oe_callf (vs := [.int .i64 1]) co100 (ar1 C) (l1Int_ok  (by omega)) ?_)
     rintro _ w78 ⟨nr73, A74, n75, c76, rfl, e79, h77⟩
     have E80 := below_ext E71 E71.size e79
     have lh77 := Num.len (by decide) h77
     have H81 := (e79.blk H72)
     refine ⟨.inr H81, ?_⟩
     have h82 := (h68.ext e79)
     refine aw_one 18 rfl (by kernel_rfl) (.yes (d := 14) rfl rfl (congrArg Value.bool (decide_eq_true hb51))) (oe_callf (vs := [.agg #[.bool nr64, .slice A65 n66 c67], .agg #[.bool nr73, .slice A74 n75 c76]]) co128 (ar2 (T rfl rfl) (T rfl rfl)) (l1Cmp_ok h82 h77 (by first | decide | omega) (by first | decide | omega)) ?_)
     rintro _ w83 ⟨rfl, e84⟩
     have E85 := below_ext E80 E80.size e84
     have H86 := (e84.blk H81)
     refine ⟨.inr H86, ?_⟩
     refine aw_pure 19 (.bool (decide ((sgnI ((gI (gI x y) u) - 1)) = 0))) rfl (by kernel_rfl) (.yes (d := 14) rfl rfl (congrArg Value.bool (decide_eq_true hb51))) H86 (fun _ => dv_eql (a := sgnI ((gI (gI x y) u) - 1)) (b := 0) (T rfl rfl) C) ?_
     refine aw_pure 20 (.bool (decide ((sgnI ((gI (gI x y) u) - 1)) = 0))) rfl (by kernel_rfl) .none H86 (fun _ => dv_pick_t (T rfl (congrArg Value.bool (decide_eq_true hb51))) (T rfl rfl)) ?_
     refine aw_last 21 (.bool (decide ((sgnI ((gI (gI x y) u) - 1)) = 0))) rfl (by kernel_rfl) .none (fun _ => dv_assign (T rfl rfl)) ?_
     refine aw_done (by kernel_rfl) ?_
     refine rk_ret Try.func67 (v := .bool (decide ((sgnI ((gI (gI x y) u) - 1)) = 0))) (res1 Try.results67 (rv_tmp rfl rfl)) ⟨_, rfl, ?_⟩
     have h1 : sm3 x y u := by first | assumption | exact sm3_iff.2 (mx3.1 ‹_›)
     have h2 : 0 < u := sgnI_gt.1 (by assumption)
     have h3 := @sgnI_zero (gI3 x y u - 1)
     exact ⟨(vb ⟨fun hh => ⟨h2, h1, by have := h3.1 hh; omega⟩, fun hh => h3.2 (by have := hh.2.2; omega)⟩), E85⟩
   · refine aw_no 9 rfl (by kernel_rfl) (d := 14) rfl rfl (congrArg Value.bool (decide_eq_false hb51)) H50 ?_
     refine aw_no 10 rfl (by kernel_rfl) (d := 14) rfl rfl (congrArg Value.bool (decide_eq_false hb51)) H50 ?_
     refine aw_no 11 rfl (by kernel_rfl) (d := 14) rfl rfl (congrArg Value.bool (decide_eq_false hb51)) H50 ?_
     refine aw_no 12 rfl (by kernel_rfl) (d := 14) rfl rfl (congrArg Value.bool (decide_eq_false hb51)) H50 ?_
     refine aw_no 13 rfl (by kernel_rfl) (d := 14) rfl rfl (congrArg Value.bool (decide_eq_false hb51)) H50 ?_
     refine aw_no 14 rfl (by kernel_rfl) (d := 14) rfl rfl (congrArg Value.bool (decide_eq_false hb51)) H50 ?_
     refine aw_no 15 rfl (by kernel_rfl) (d := 14) rfl rfl (congrArg Value.bool (decide_eq_false hb51)) H50 ?_
     refine aw_no 16 rfl (by kernel_rfl) (d := 14) rfl rfl (congrArg Value.bool (decide_eq_false hb51)) H50 ?_
     refine aw_no 17 rfl (by kernel_rfl) (d := 14) rfl rfl (congrArg Value.bool (decide_eq_false hb51)) H50 ?_
     refine aw_no 18 rfl (by kernel_rfl) (d := 14) rfl rfl (congrArg Value.bool (decide_eq_false hb51)) H50 ?_
     refine aw_no 19 rfl (by kernel_rfl) (d := 14) rfl rfl (congrArg Value.bool (decide_eq_false hb51)) H50 ?_
     refine aw_pure 20 (.bool false) rfl (by kernel_rfl) .none H50 (fun _ => dv_pick_f (T rfl (congrArg Value.bool (decide_eq_false hb51))) C) ?_
     refine aw_last 21 (.bool false) rfl (by kernel_rfl) .none (fun _ => dv_assign (T rfl rfl)) ?_
     refine aw_done (by kernel_rfl) ?_
     refine rk_ret Try.func67 (v := .bool false) (res1 Try.results67 (rv_tmp rfl rfl)) ⟨_, rfl, ?_⟩
     exact ⟨(vf (by intro hh; have h1 := sgnI_gt.2 hh.1; have h2 := hh.2.1; first | (exact absurd h2 (by assumption)) | (exact absurd (mx3.2 (sm3_iff.1 h2)) (by assumption)) | contradiction | omega)), E49⟩
 · refine aw_no 5 rfl (by kernel_rfl) (d := 10) rfl rfl (congrArg Value.bool (decide_eq_false hb43)) H42 ?_
   refine aw_no 6 rfl (by kernel_rfl) (d := 10) rfl rfl (congrArg Value.bool (decide_eq_false hb43)) H42 ?_
   refine aw_pure 7 (.bool false) rfl (by kernel_rfl) .none H42 (fun _ => dv_pick_f (T rfl (congrArg Value.bool (decide_eq_false hb43))) C) ?_
   refine aw_pure 8 (.bool false) rfl (by kernel_rfl) .none H42 (fun _ => dv_move (T rfl rfl)) ?_
   refine aw_no 9 rfl (by kernel_rfl) (d := 14) rfl rfl (rfl) H42 ?_
   refine aw_no 10 rfl (by kernel_rfl) (d := 14) rfl rfl (rfl) H42 ?_
   refine aw_no 11 rfl (by kernel_rfl) (d := 14) rfl rfl (rfl) H42 ?_
   refine aw_no 12 rfl (by kernel_rfl) (d := 14) rfl rfl (rfl) H42 ?_
   refine aw_no 13 rfl (by kernel_rfl) (d := 14) rfl rfl (rfl) H42 ?_
   refine aw_no 14 rfl (by kernel_rfl) (d := 14) rfl rfl (rfl) H42 ?_
   refine aw_no 15 rfl (by kernel_rfl) (d := 14) rfl rfl (rfl) H42 ?_
   refine aw_no 16 rfl (by kernel_rfl) (d := 14) rfl rfl (rfl) H42 ?_
   refine aw_no 17 rfl (by kernel_rfl) (d := 14) rfl rfl (rfl) H42 ?_
   refine aw_no 18 rfl (by kernel_rfl) (d := 14) rfl rfl (rfl) H42 ?_
   refine aw_no 19 rfl (by kernel_rfl) (d := 14) rfl rfl (rfl) H42 ?_
   refine aw_pure 20 (.bool false) rfl (by kernel_rfl) .none H42 (fun _ => dv_pick_f (T rfl rfl) C) ?_
   refine aw_last 21 (.bool false) rfl (by kernel_rfl) .none (fun _ => dv_assign (T rfl rfl)) ?_
   refine aw_done (by kernel_rfl) ?_
   refine rk_ret Try.func67 (v := .bool false) (res1 Try.results67 (rv_tmp rfl rfl)) ⟨_, rfl, ?_⟩
   exact ⟨(vf (by intro hh; have h1 := sgnI_gt.2 hh.1; have h2 := hh.2.1; first | (exact absurd h2 (by assumption)) | (exact absurd (mx3.2 (sm3_iff.1 h2)) (by assumption)) | contradiction | omega)), E41⟩
set_option maxHeartbeats 1000000 in
theorem iPointOk_ok {w : World} {x y u : Int} (fx_ : fits x) (fy_ : fits y) (fu_ : fits u)  : Ct Try.prog 75 [.agg #[.int .u64 (wv3 x), .int .u64 (wv2 x), .int .u64 (wv1 x), .int .u64 (wv0 x), .int .u64 (wv3 y), .int .u64 (wv2 y), .int .u64 (wv1 y), .int .u64 (wv0 y), .int .u64 (wv3 u), .int .u64 (wv2 u), .int .u64 (wv1 u), .int .u64 (wv0 u)]] w fun v w1 => v = .bool (decide (pOk x y u)) ∧ Ext w w1 := by
 refine ct_run (n := 36) Try.func75 rfl Try.ntmps75 rfl ?_
 have E0 : Below w.heap.size w w := Below.refl _ _
 refine rk_seq ?_
 refine rk_reg ?_
 refine lw_e (oe_box (v := .agg #[.int .u64 (wv3 x), .int .u64 (wv2 x), .int .u64 (wv1 x), .int .u64 (wv0 x), .int .u64 (wv3 y), .int .u64 (wv2 y), .int .u64 (wv1 y), .int .u64 (wv0 y), .int .u64 (wv3 u), .int .u64 (wv2 u), .int .u64 (wv1 u), .int .u64 (wv0 u)]) (cs := #[.int .u64 (wv3 x), .int .u64 (wv2 x), .int .u64 (wv1 x), .int .u64 (wv0 x), .int .u64 (wv3 y), .int .u64 (wv2 y), .int .u64 (wv1 y), .int .u64 (wv0 y), .int .u64 (wv3 u), .int .u64 (wv2 u), .int .u64 (wv1 u), .int .u64 (wv0 u)]) (T rfl rfl) rfl ?_)
 intro b1 w2 n3
 have N4 : w.heap.size ≤ b1 := n3.eq ▸ E0.size
 have E5 := below_ext E0 E0.size n3.ext
 refine lw_v (.bool false) (dv_assign C) ?_
 refine lw_nil ?_
 refine rk_seq ?_
 refine rk_reg ?_
 refine lw_v (.agg #[.int .u64 (wv3 x), .int .u64 (wv2 x), .int .u64 (wv1 x), .int .u64 (wv0 x), .int .u64 (wv3 y), .int .u64 (wv2 y), .int .u64 (wv1 y), .int .u64 (wv0 y), .int .u64 (wv3 u), .int .u64 (wv2 u), .int .u64 (wv1 u), .int .u64 (wv0 u)]) (dv_loads (l := [.int .u64 (wv3 x), .int .u64 (wv2 x), .int .u64 (wv1 x), .int .u64 (wv0 x), .int .u64 (wv3 y), .int .u64 (wv2 y), .int .u64 (wv1 y), .int .u64 (wv0 y), .int .u64 (wv3 u), .int .u64 (wv2 u), .int .u64 (wv1 u), .int .u64 (wv0 u)]) agt37 sz37 (T rfl rfl) n3.blk rfl) ?_
 refine lw_e (oe_callf (vs := [.agg #[.int .u64 (wv3 x), .int .u64 (wv2 x), .int .u64 (wv1 x), .int .u64 (wv0 x), .int .u64 (wv3 y), .int .u64 (wv2 y), .int .u64 (wv1 y), .int .u64 (wv0 y), .int .u64 (wv3 u), .int .u64 (wv2 u), .int .u64 (wv1 u), .int .u64 (wv0 u)]]) co90 (ar1 (T rfl rfl)) (spot_ok fx_ fy_ fu_  ) ?_)
 rintro _ w21 ⟨nr6, A7, n8, c9, nr10, A11, n12, c13, nr14, A15, n16, c17, rfl, e22, h18, h19, h20⟩
 have E23 := below_ext E5 E5.size e22
 have lh18 := Num.len (by decide) h18
 have lh19 := Num.len (by decide) h19
 have lh20 := Num.len (by decide) h20
 refine lw_e (oe_alloc ze122 ?_)
 intro b24 w25 n26
 have N27 : w.heap.size ≤ b24 := n26.eq ▸ E23.size
 have H28 := (e22.blk n3.blk)
 have : b1 < b24 := n26.eq ▸ lt_of_blk H28
 have E29 := below_ext E23 E23.size n26.ext
 refine lw_e (oe_store (v := .agg #[.bool nr6, .slice A7 n8 c9, .bool nr10, .slice A11 n12 c13, .bool nr14, .slice A15 n16 c17]) (vs := [.bool nr6, .slice A7 n8 c9, .bool nr10, .slice A11 n12 c13, .bool nr14, .slice A15 n16 c17]) (l := [.bool nr6, .slice A7 n8 c9, .bool nr10, .slice A11 n12 c13, .bool nr14, .slice A15 n16 c17]) (T rfl rfl) (T rfl rfl) sz122 rfl rfl rfl n26.blk rfl ?_)
 intro w30 s31 H32
 have E33 := below_st E29 N27 s31
 refine lw_nil ?_
 refine rk_seq ?_
 refine rk_any (fun w => w.heap[b24]? = some (.cells #[.bool nr6, .slice A7 n8 c9, .bool nr10, .slice A11 n12 c13, .bool nr14, .slice A15 n16 c17] 122)) [30] mo ?_
 intro w34 d35
 have E36 := below_ext E33 E33.size d35.ext
 have H37 := (d35.ext.blk H32)
 refine aw_pure 0 (.pointer (some ⟨b24, 4, none⟩)) rfl (by kernel_rfl) .none H37 (fun _ => dv_fieldAddr (a := ⟨b24, 0, none⟩) (a' := ⟨b24, 4, none⟩) fo122_2 (T rfl rfl) rfl) ?_
 refine aw_load 1 (.agg #[.bool nr14, .slice A15 n16 c17]) rfl (by kernel_rfl) .none H37 (fun _ s => dv_loads (l := [.bool nr14, .slice A15 n16 c17]) agt120 sz120 (T rfl rfl) s rfl) ?_
 have h38 := (((h20.ext n26.ext).st s31 n26.blk (by decide)).ext d35.ext)
 refine aw_one 2 rfl (by kernel_rfl) .none (oe_callf (vs := [.agg #[.bool nr14, .slice A15 n16 c17]]) co132 (ar1 (T rfl rfl)) (nsign_ok h38 ) ?_)
 rintro _ w39 ⟨rfl, e40⟩
 have E41 := below_ext E36 E36.size e40
 have H42 := (e40.blk H37)
 refine ⟨.inr H42, ?_⟩
 refine aw_pure 3 (.bool (decide (0 < (sgnI u)))) rfl (by kernel_rfl) .none H42 (fun _ => dv_gtr (a := sgnI u) (b := 0) (T rfl rfl) C) ?_
 refine aw_pure 4 (.bool (decide (0 < (sgnI u)))) rfl (by kernel_rfl) .none H42 (fun _ => dv_move (T rfl rfl)) ?_
 by_cases hb43 : 0 < (sgnI u)
 · refine aw_pure 5 (.pointer (some ⟨b24, 0, none⟩)) rfl (by kernel_rfl) (.yes (d := 10) rfl rfl (congrArg Value.bool (decide_eq_true hb43))) H42 (fun _ => dv_fieldAddr (a := ⟨b24, 0, none⟩) (a' := ⟨b24, 0, none⟩) fo122_0 (T rfl rfl) rfl) ?_
   refine aw_load 6 (.agg #[.bool nr6, .slice A7 n8 c9]) rfl (by kernel_rfl) (.yes (d := 10) rfl rfl (congrArg Value.bool (decide_eq_true hb43))) H42 (fun _ s => dv_loads (l := [.bool nr6, .slice A7 n8 c9]) agt120 sz120 (T rfl rfl) s rfl) ?_
   refine aw_pure 8 (.pointer (some ⟨b24, 2, none⟩)) rfl (by kernel_rfl) (.yes (d := 10) rfl rfl (congrArg Value.bool (decide_eq_true hb43))) H42 (fun _ => dv_fieldAddr (a := ⟨b24, 0, none⟩) (a' := ⟨b24, 2, none⟩) fo122_1 (T rfl rfl) rfl) ?_
   refine aw_load 9 (.agg #[.bool nr10, .slice A11 n12 c13]) rfl (by kernel_rfl) (.yes (d := 10) rfl rfl (congrArg Value.bool (decide_eq_true hb43))) H42 (fun _ s => dv_loads (l := [.bool nr10, .slice A11 n12 c13]) agt120 sz120 (T rfl rfl) s rfl) ?_
   refine aw_pure 11 (.pointer (some ⟨b24, 4, none⟩)) rfl (by kernel_rfl) (.yes (d := 10) rfl rfl (congrArg Value.bool (decide_eq_true hb43))) H42 (fun _ => dv_fieldAddr (a := ⟨b24, 0, none⟩) (a' := ⟨b24, 4, none⟩) fo122_2 (T rfl rfl) rfl) ?_
   refine aw_load 12 (.agg #[.bool nr14, .slice A15 n16 c17]) rfl (by kernel_rfl) (.yes (d := 10) rfl rfl (congrArg Value.bool (decide_eq_true hb43))) H42 (fun _ s => dv_loads (l := [.bool nr14, .slice A15 n16 c17]) agt120 sz120 (T rfl rfl) s rfl) ?_
   have h44 := ((((h18.ext n26.ext).st s31 n26.blk (by decide)).ext d35.ext).ext e40)
   refine aw_one 7 rfl (by kernel_rfl) (.yes (d := 10) rfl rfl (congrArg Value.bool (decide_eq_true hb43))) (oe_callf (vs := [.agg #[.bool nr6, .slice A7 n8 c9]]) co133 (ar1 (T rfl rfl)) (nsize_num h44 (by first | omega | (simp; done) | (simp; omega))) ?_)
   rintro _ w45 ⟨rfl, e46⟩
   have E47 := below_ext E41 E41.size e46
   have H48 := (e46.blk H42)
   refine ⟨.inr H48, ?_⟩
   have h49 := (((((h19.ext n26.ext).st s31 n26.blk (by decide)).ext d35.ext).ext e40).ext e46)
   refine aw_one 10 rfl (by kernel_rfl) (.yes (d := 10) rfl rfl (congrArg Value.bool (decide_eq_true hb43))) (oe_callf (vs := [.agg #[.bool nr10, .slice A11 n12 c13]]) co133 (ar1 (T rfl rfl)) (nsize_num h49 (by first | omega | (simp; done) | (simp; omega))) ?_)
   rintro _ w50 ⟨rfl, e51⟩
   have E52 := below_ext E47 E47.size e51
   have H53 := (e51.blk H48)
   refine ⟨.inr H53, ?_⟩
   have h54 := (((h38.ext e40).ext e46).ext e51)
   refine aw_one 13 rfl (by kernel_rfl) (.yes (d := 10) rfl rfl (congrArg Value.bool (decide_eq_true hb43))) (oe_callf (vs := [.agg #[.bool nr14, .slice A15 n16 c17]]) co133 (ar1 (T rfl rfl)) (nsize_num h54 (by first | omega | (simp; done) | (simp; omega))) ?_)
   rintro _ w55 ⟨rfl, e56⟩
   have E57 := below_ext E52 E52.size e56
   have H58 := (e56.blk H53)
   refine ⟨.inr H58, ?_⟩
   refine aw_pure 14 (.int .i64 (mx (mx ((nbits (x).natAbs : Int)) ((nbits (y).natAbs : Int))) ((nbits (u).natAbs : Int)))) rfl (by kernel_rfl) (.yes (d := 10) rfl rfl (congrArg Value.bool (decide_eq_true hb43))) H58 (fun _ => dv_max3 (a := (nbits (x).natAbs : Int)) (b := (nbits (y).natAbs : Int)) (c := (nbits (u).natAbs : Int)) (T rfl rfl) (T rfl rfl) (T rfl rfl)) ?_
   refine aw_pure 15 (.bool (decide ((mx (mx ((nbits (x).natAbs : Int)) ((nbits (y).natAbs : Int))) ((nbits (u).natAbs : Int))) ≤ 80))) rfl (by kernel_rfl) (.yes (d := 10) rfl rfl (congrArg Value.bool (decide_eq_true hb43))) H58 (fun _ => dv_leq (a := mx (mx ((nbits (x).natAbs : Int)) ((nbits (y).natAbs : Int))) ((nbits (u).natAbs : Int))) (b := 80) (T rfl rfl) C) ?_
   refine aw_pure 16 (.bool (decide ((mx (mx ((nbits (x).natAbs : Int)) ((nbits (y).natAbs : Int))) ((nbits (u).natAbs : Int))) ≤ 80))) rfl (by kernel_rfl) .none H58 (fun _ => dv_pick_t (T rfl (congrArg Value.bool (decide_eq_true hb43))) (T rfl rfl)) ?_
   refine aw_pure 17 (.bool (decide ((mx (mx ((nbits (x).natAbs : Int)) ((nbits (y).natAbs : Int))) ((nbits (u).natAbs : Int))) ≤ 80))) rfl (by kernel_rfl) .none H58 (fun _ => dv_move (T rfl rfl)) ?_
   by_cases hb59 : (mx (mx ((nbits (x).natAbs : Int)) ((nbits (y).natAbs : Int))) ((nbits (u).natAbs : Int))) ≤ 80
   · refine aw_pure 18 (.pointer (some ⟨b24, 0, none⟩)) rfl (by kernel_rfl) (.yes (d := 23) rfl rfl (congrArg Value.bool (decide_eq_true hb59))) H58 (fun _ => dv_fieldAddr (a := ⟨b24, 0, none⟩) (a' := ⟨b24, 0, none⟩) fo122_0 (T rfl rfl) rfl) ?_
     refine aw_load 19 (.agg #[.bool nr6, .slice A7 n8 c9]) rfl (by kernel_rfl) (.yes (d := 23) rfl rfl (congrArg Value.bool (decide_eq_true hb59))) H58 (fun _ s => dv_loads (l := [.bool nr6, .slice A7 n8 c9]) agt120 sz120 (T rfl rfl) s rfl) ?_
     refine aw_pure 20 (.pointer (some ⟨b24, 2, none⟩)) rfl (by kernel_rfl) (.yes (d := 23) rfl rfl (congrArg Value.bool (decide_eq_true hb59))) H58 (fun _ => dv_fieldAddr (a := ⟨b24, 0, none⟩) (a' := ⟨b24, 2, none⟩) fo122_1 (T rfl rfl) rfl) ?_
     refine aw_load 21 (.agg #[.bool nr10, .slice A11 n12 c13]) rfl (by kernel_rfl) (.yes (d := 23) rfl rfl (congrArg Value.bool (decide_eq_true hb59))) H58 (fun _ s => dv_loads (l := [.bool nr10, .slice A11 n12 c13]) agt120 sz120 (T rfl rfl) s rfl) ?_
     refine aw_pure 22 (.pointer (some ⟨b24, 4, none⟩)) rfl (by kernel_rfl) (.yes (d := 23) rfl rfl (congrArg Value.bool (decide_eq_true hb59))) H58 (fun _ => dv_fieldAddr (a := ⟨b24, 0, none⟩) (a' := ⟨b24, 4, none⟩) fo122_2 (T rfl rfl) rfl) ?_
     refine aw_load 23 (.agg #[.bool nr14, .slice A15 n16 c17]) rfl (by kernel_rfl) (.yes (d := 23) rfl rfl (congrArg Value.bool (decide_eq_true hb59))) H58 (fun _ s => dv_loads (l := [.bool nr14, .slice A15 n16 c17]) agt120 sz120 (T rfl rfl) s rfl) ?_
     refine aw_one 24 rfl (by kernel_rfl) (.yes (d := 23) rfl rfl (congrArg Value.bool (decide_eq_true hb59))) (oe_buildSlice (pv := [(0, .agg #[.bool nr6, .slice A7 n8 c9]), (1, .agg #[.bool nr10, .slice A11 n12 c13]), (2, .agg #[.bool nr14, .slice A15 n16 c17])]) (init := [.bool false, .slice none 0 0, .bool false, .slice none 0 0, .bool false, .slice none 0 0]) (l := [.bool nr6, .slice A7 n8 c9, .bool nr10, .slice A11 n12 c13, .bool nr14, .slice A15 n16 c17]) us197 sz120 rfl rfl zc120 (by kernel_rfl) ⟨rfl, (T rfl rfl), ⟨rfl, (T rfl rfl), ⟨rfl, (T rfl rfl), trivial⟩⟩⟩ rfl ?_)
     intro b60 w61 n62
     have N63 : w.heap.size ≤ b60 := n62.eq ▸ E57.size
     have : b24 < b60 := n62.eq ▸ lt_of_blk H58
     have E64 := below_ext E57 E57.size n62.ext
     have H65 := (n62.ext.blk H58)
     refine ⟨.inr H65, ?_⟩
     have h66 := ((((h44.ext e46).ext e51).ext e56).ext n62.ext)
     have h67 := (((h49.ext e51).ext e56).ext n62.ext)
     have h68 := ((h54.ext e56).ext n62.ext)
     refine aw_one 25 rfl (by kernel_rfl) (.yes (d := 23) rfl rfl (congrArg Value.bool (decide_eq_true hb59))) (oe_callf (vs := [.slice (some ⟨b60, 0, none⟩) 3 3]) co134 (ar1 (T rfl rfl)) (gcd3_ok h66 h67 h68 (by first | decide | omega) (by first | decide | omega) (by first | decide | omega) n62.blk) ?_)
     rintro _ w74 ⟨nr69, A70, n71, c72, rfl, e75, h73⟩
     have E76 := below_ext E64 E64.size e75
     have lh73 := Num.len (by decide) h73
     have H77 := (e75.blk H65)
     refine ⟨.inr H77, ?_⟩
     refine aw_one 26 rfl (by kernel_rfl) (.yes (d := 23) rfl rfl (congrArg Value.bool (decide_eq_true hb59))) (oe_callf (vs := [.int .i64 1]) co92 (ar1 C) (whole_ok  (by omega)) ?_)
     rintro _ w83 ⟨nr78, A79, n80, c81, rfl, e84, h82⟩
     have E85 := below_ext E76 E76.size e84
     have lh82 := Num.len (by decide) h82
     have H86 := (e84.blk H77)
     refine ⟨.inr H86, ?_⟩
     have h87 := (h73.ext e84)
     refine aw_one 27 rfl (by kernel_rfl) (.yes (d := 23) rfl rfl (congrArg Value.bool (decide_eq_true hb59))) (oe_callf (vs := [.agg #[.bool nr69, .slice A70 n71 c72], .agg #[.bool nr78, .slice A79 n80 c81]]) co91 (ar2 (T rfl rfl) (T rfl rfl)) (ncmp_ok h87 h82 (by first | decide | omega) (by first | decide | omega)) ?_)
     rintro _ w88 ⟨rfl, e89⟩
     have E90 := below_ext E85 E85.size e89
     have H91 := (e89.blk H86)
     refine ⟨.inr H91, ?_⟩
     refine aw_pure 28 (.bool (decide ((sgnI ((gI3 x y u) - 1)) = 0))) rfl (by kernel_rfl) (.yes (d := 23) rfl rfl (congrArg Value.bool (decide_eq_true hb59))) H91 (fun _ => dv_eql (a := sgnI ((gI3 x y u) - 1)) (b := 0) (T rfl rfl) C) ?_
     refine aw_pure 29 (.bool (decide ((sgnI ((gI3 x y u) - 1)) = 0))) rfl (by kernel_rfl) .none H91 (fun _ => dv_pick_t (T rfl (congrArg Value.bool (decide_eq_true hb59))) (T rfl rfl)) ?_
     refine aw_last 30 (.bool (decide ((sgnI ((gI3 x y u) - 1)) = 0))) rfl (by kernel_rfl) .none (fun _ => dv_assign (T rfl rfl)) ?_
     refine aw_done (by kernel_rfl) ?_
     refine rk_ret Try.func75 (v := .bool (decide ((sgnI ((gI3 x y u) - 1)) = 0))) (res1 Try.results75 (rv_tmp rfl rfl)) ⟨_, rfl, ?_⟩
     have h1 : sm3 x y u := by first | assumption | exact sm3_iff.2 (mx3.1 ‹_›)
     have h2 : 0 < u := sgnI_gt.1 (by assumption)
     have h3 := @sgnI_zero (gI3 x y u - 1)
     exact ⟨(vb ⟨fun hh => ⟨h2, h1, by have := h3.1 hh; omega⟩, fun hh => h3.2 (by have := hh.2.2; omega)⟩), E90⟩
   · refine aw_no 18 rfl (by kernel_rfl) (d := 23) rfl rfl (congrArg Value.bool (decide_eq_false hb59)) H58 ?_
     refine aw_no 19 rfl (by kernel_rfl) (d := 23) rfl rfl (congrArg Value.bool (decide_eq_false hb59)) H58 ?_
     refine aw_no 20 rfl (by kernel_rfl) (d := 23) rfl rfl (congrArg Value.bool (decide_eq_false hb59)) H58 ?_
     refine aw_no 21 rfl (by kernel_rfl) (d := 23) rfl rfl (congrArg Value.bool (decide_eq_false hb59)) H58 ?_
     refine aw_no 22 rfl (by kernel_rfl) (d := 23) rfl rfl (congrArg Value.bool (decide_eq_false hb59)) H58 ?_
     refine aw_no 23 rfl (by kernel_rfl) (d := 23) rfl rfl (congrArg Value.bool (decide_eq_false hb59)) H58 ?_
     refine aw_no 24 rfl (by kernel_rfl) (d := 23) rfl rfl (congrArg Value.bool (decide_eq_false hb59)) H58 ?_
     refine aw_no 25 rfl (by kernel_rfl) (d := 23) rfl rfl (congrArg Value.bool (decide_eq_false hb59)) H58 ?_
     refine aw_no 26 rfl (by kernel_rfl) (d := 23) rfl rfl (congrArg Value.bool (decide_eq_false hb59)) H58 ?_
     refine aw_no 27 rfl (by kernel_rfl) (d := 23) rfl rfl (congrArg Value.bool (decide_eq_false hb59)) H58 ?_
     refine aw_no 28 rfl (by kernel_rfl) (d := 23) rfl rfl (congrArg Value.bool (decide_eq_false hb59)) H58 ?_
     refine aw_pure 29 (.bool false) rfl (by kernel_rfl) .none H58 (fun _ => dv_pick_f (T rfl (congrArg Value.bool (decide_eq_false hb59))) C) ?_
     refine aw_last 30 (.bool false) rfl (by kernel_rfl) .none (fun _ => dv_assign (T rfl rfl)) ?_
     refine aw_done (by kernel_rfl) ?_
     refine rk_ret Try.func75 (v := .bool false) (res1 Try.results75 (rv_tmp rfl rfl)) ⟨_, rfl, ?_⟩
     exact ⟨(vf (by intro hh; have h1 := sgnI_gt.2 hh.1; have h2 := hh.2.1; first | (exact absurd h2 (by assumption)) | (exact absurd (mx3.2 (sm3_iff.1 h2)) (by assumption)) | contradiction | omega)), E57⟩
 · refine aw_no 5 rfl (by kernel_rfl) (d := 10) rfl rfl (congrArg Value.bool (decide_eq_false hb43)) H42 ?_
   refine aw_no 6 rfl (by kernel_rfl) (d := 10) rfl rfl (congrArg Value.bool (decide_eq_false hb43)) H42 ?_
   refine aw_no 7 rfl (by kernel_rfl) (d := 10) rfl rfl (congrArg Value.bool (decide_eq_false hb43)) H42 ?_
   refine aw_no 8 rfl (by kernel_rfl) (d := 10) rfl rfl (congrArg Value.bool (decide_eq_false hb43)) H42 ?_
   refine aw_no 9 rfl (by kernel_rfl) (d := 10) rfl rfl (congrArg Value.bool (decide_eq_false hb43)) H42 ?_
   refine aw_no 10 rfl (by kernel_rfl) (d := 10) rfl rfl (congrArg Value.bool (decide_eq_false hb43)) H42 ?_
   refine aw_no 11 rfl (by kernel_rfl) (d := 10) rfl rfl (congrArg Value.bool (decide_eq_false hb43)) H42 ?_
   refine aw_no 12 rfl (by kernel_rfl) (d := 10) rfl rfl (congrArg Value.bool (decide_eq_false hb43)) H42 ?_
   refine aw_no 13 rfl (by kernel_rfl) (d := 10) rfl rfl (congrArg Value.bool (decide_eq_false hb43)) H42 ?_
   refine aw_no 14 rfl (by kernel_rfl) (d := 10) rfl rfl (congrArg Value.bool (decide_eq_false hb43)) H42 ?_
   refine aw_no 15 rfl (by kernel_rfl) (d := 10) rfl rfl (congrArg Value.bool (decide_eq_false hb43)) H42 ?_
   refine aw_pure 16 (.bool false) rfl (by kernel_rfl) .none H42 (fun _ => dv_pick_f (T rfl (congrArg Value.bool (decide_eq_false hb43))) C) ?_
   refine aw_pure 17 (.bool false) rfl (by kernel_rfl) .none H42 (fun _ => dv_move (T rfl rfl)) ?_
   refine aw_no 18 rfl (by kernel_rfl) (d := 23) rfl rfl (rfl) H42 ?_
   refine aw_no 19 rfl (by kernel_rfl) (d := 23) rfl rfl (rfl) H42 ?_
   refine aw_no 20 rfl (by kernel_rfl) (d := 23) rfl rfl (rfl) H42 ?_
   refine aw_no 21 rfl (by kernel_rfl) (d := 23) rfl rfl (rfl) H42 ?_
   refine aw_no 22 rfl (by kernel_rfl) (d := 23) rfl rfl (rfl) H42 ?_
   refine aw_no 23 rfl (by kernel_rfl) (d := 23) rfl rfl (rfl) H42 ?_
   refine aw_no 24 rfl (by kernel_rfl) (d := 23) rfl rfl (rfl) H42 ?_
   refine aw_no 25 rfl (by kernel_rfl) (d := 23) rfl rfl (rfl) H42 ?_
   refine aw_no 26 rfl (by kernel_rfl) (d := 23) rfl rfl (rfl) H42 ?_
   refine aw_no 27 rfl (by kernel_rfl) (d := 23) rfl rfl (rfl) H42 ?_
   refine aw_no 28 rfl (by kernel_rfl) (d := 23) rfl rfl (rfl) H42 ?_
   refine aw_pure 29 (.bool false) rfl (by kernel_rfl) .none H42 (fun _ => dv_pick_f (T rfl rfl) C) ?_
   refine aw_last 30 (.bool false) rfl (by kernel_rfl) .none (fun _ => dv_assign (T rfl rfl)) ?_
   refine aw_done (by kernel_rfl) ?_
   refine rk_ret Try.func75 (v := .bool false) (res1 Try.results75 (rv_tmp rfl rfl)) ⟨_, rfl, ?_⟩
   exact ⟨(vf (by intro hh; have h1 := sgnI_gt.2 hh.1; have h2 := hh.2.1; first | (exact absurd h2 (by assumption)) | (exact absurd (mx3.2 (sm3_iff.1 h2)) (by assumption)) | contradiction | omega)), E41⟩
set_option maxHeartbeats 1000000 in
theorem l3CmpX_ok {w : World}  {na : Bool} {Aa : Option Addr} {la ca : Nat} {x : Int} {sx : Nat} (ha : Num 32 183 .u32 w na Aa la ca x sx) {nb : Bool} {Ab : Option Addr} {lb cb : Nat} {y : Int} {sy : Nat} (hb : Num 32 183 .u32 w nb Ab lb cb y sy) {nm : Bool} {Am : Option Addr} {lm cm : Nat} {u : Int} {su : Nat} (hm : Num 32 183 .u32 w nm Am lm cm u su) {ne : Bool} {Ae : Option Addr} {le ce : Nat} {p : Int} {sp : Nat} (he : Num 32 183 .u32 w ne Ae le ce p sp) {nf : Bool} {Af : Option Addr} {lf cf : Nat} {q : Int} {sq : Nat} (hf : Num 32 183 .u32 w nf Af lf cf q sq) {ng : Bool} {Ag : Option Addr} {lg cg : Nat} {r : Int} {sr : Nat} (hg : Num 32 183 .u32 w ng Ag lg cg r sr) (hbsx : sx ≤ 100000) (hbsy : sy ≤ 100000) (hbsu : su ≤ 100000) (hbsp : sp ≤ 100000) (hbsq : sq ≤ 100000) (hbsr : sr ≤ 100000)  : Ct Try.prog 88 [.agg #[.bool na, .slice Aa la ca, .bool nb, .slice Ab lb cb, .bool nm, .slice Am lm cm], .agg #[.bool ne, .slice Ae le ce, .bool nf, .slice Af lf cf, .bool ng, .slice Ag lg cg]] w fun v w1 => v = .int .i64 (sgnI (x * r - p * u)) ∧ Ext w w1 := by
 refine ct_run (n := 16) Try.func88 rfl Try.ntmps88 rfl ?_
 have E0 : Below w.heap.size w w := Below.refl _ _
 have lha := Num.len (by decide) ha
 have lhb := Num.len (by decide) hb
 have lhm := Num.len (by decide) hm
 have lhe := Num.len (by decide) he
 have lhf := Num.len (by decide) hf
 have lhg := Num.len (by decide) hg
 refine rk_seq ?_
 refine rk_reg ?_
 refine lw_e (oe_box (v := .agg #[.bool na, .slice Aa la ca, .bool nb, .slice Ab lb cb, .bool nm, .slice Am lm cm]) (cs := #[.bool na, .slice Aa la ca, .bool nb, .slice Ab lb cb, .bool nm, .slice Am lm cm]) (T rfl rfl) rfl ?_)
 intro b1 w2 n3
 have N4 : w.heap.size ≤ b1 := n3.eq ▸ E0.size
 have E5 := below_ext E0 E0.size n3.ext
 refine lw_e (oe_box (v := .agg #[.bool ne, .slice Ae le ce, .bool nf, .slice Af lf cf, .bool ng, .slice Ag lg cg]) (cs := #[.bool ne, .slice Ae le ce, .bool nf, .slice Af lf cf, .bool ng, .slice Ag lg cg]) (T rfl rfl) rfl ?_)
 intro b6 w7 n8
 have N9 : w.heap.size ≤ b6 := n8.eq ▸ E5.size
 have : b1 < b6 := n8.eq ▸ lt_of_blk n3.blk
 have E10 := below_ext E5 E5.size n8.ext
 refine lw_v (.int .i64 0) (dv_assign C) ?_
 refine lw_nil ?_
 refine rk_seq ?_
 refine rk_any (fun w => w.heap[b1]? = some (.cells #[.bool na, .slice Aa la ca, .bool nb, .slice Ab lb cb, .bool nm, .slice Am lm cm] 102) ∧ w.heap[b6]? = some (.cells #[.bool ne, .slice Ae le ce, .bool nf, .slice Af lf cf, .bool ng, .slice Ag lg cg] 102)) [11] mo ?_
 intro w11 d12
 have E13 := below_ext E10 E10.size d12.ext
 have H14 := (d12.ext.blk (n8.ext.blk n3.blk))
 have H15 := (d12.ext.blk n8.blk)
 refine aw_pure 0 (.pointer (some ⟨b1, 0, none⟩)) rfl (by kernel_rfl) .none ⟨H14, H15⟩ (fun _ => dv_fieldAddr (a := ⟨b1, 0, none⟩) (a' := ⟨b1, 0, none⟩) fo102_0 (T rfl rfl) rfl) ?_
 refine aw_load 1 (.agg #[.bool na, .slice Aa la ca]) rfl (by kernel_rfl) .none ⟨H14, H15⟩ (fun _ s => dv_loads (l := [.bool na, .slice Aa la ca]) agt100 sz100 (T rfl rfl) s.1 rfl) ?_
 refine aw_pure 2 (.pointer (some ⟨b6, 4, none⟩)) rfl (by kernel_rfl) .none ⟨H14, H15⟩ (fun _ => dv_fieldAddr (a := ⟨b6, 0, none⟩) (a' := ⟨b6, 4, none⟩) fo102_2 (T rfl rfl) rfl) ?_
 refine aw_load 3 (.agg #[.bool ng, .slice Ag lg cg]) rfl (by kernel_rfl) .none ⟨H14, H15⟩ (fun _ s => dv_loads (l := [.bool ng, .slice Ag lg cg]) agt100 sz100 (T rfl rfl) s.2 rfl) ?_
 refine aw_pure 5 (.pointer (some ⟨b6, 0, none⟩)) rfl (by kernel_rfl) .none ⟨H14, H15⟩ (fun _ => dv_fieldAddr (a := ⟨b6, 0, none⟩) (a' := ⟨b6, 0, none⟩) fo102_0 (T rfl rfl) rfl) ?_
 refine aw_load 6 (.agg #[.bool ne, .slice Ae le ce]) rfl (by kernel_rfl) .none ⟨H14, H15⟩ (fun _ s => dv_loads (l := [.bool ne, .slice Ae le ce]) agt100 sz100 (T rfl rfl) s.2 rfl) ?_
 refine aw_pure 7 (.pointer (some ⟨b1, 4, none⟩)) rfl (by kernel_rfl) .none ⟨H14, H15⟩ (fun _ => dv_fieldAddr (a := ⟨b1, 0, none⟩) (a' := ⟨b1, 4, none⟩) fo102_2 (T rfl rfl) rfl) ?_
 refine aw_load 8 (.agg #[.bool nm, .slice Am lm cm]) rfl (by kernel_rfl) .none ⟨H14, H15⟩ (fun _ s => dv_loads (l := [.bool nm, .slice Am lm cm]) agt100 sz100 (T rfl rfl) s.1 rfl) ?_
 have h16 := (((ha.ext n3.ext).ext n8.ext).ext d12.ext)
 have h17 := (((hg.ext n3.ext).ext n8.ext).ext d12.ext)
 refine aw_one 4 rfl (by kernel_rfl) .none (oe_callf (vs := [.agg #[.bool na, .slice Aa la ca], .agg #[.bool ng, .slice Ag lg cg]]) co99 (ar2 (T rfl rfl) (T rfl rfl)) (l1Mul_ok h16 h17 (by first | decide | omega) (by first | decide | omega)) ?_)
 rintro _ w23 ⟨nr18, A19, n20, c21, rfl, e24, h22⟩
 have E25 := below_ext E13 E13.size e24
 have lh22 := Num.len (by decide) h22
 have H26 := (e24.blk H14)
 have H27 := (e24.blk H15)
 refine ⟨.inr ⟨H26, H27⟩, ?_⟩
 have h28 := ((((he.ext n3.ext).ext n8.ext).ext d12.ext).ext e24)
 have h29 := ((((hm.ext n3.ext).ext n8.ext).ext d12.ext).ext e24)
 refine aw_one 9 rfl (by kernel_rfl) .none (oe_callf (vs := [.agg #[.bool ne, .slice Ae le ce], .agg #[.bool nm, .slice Am lm cm]]) co99 (ar2 (T rfl rfl) (T rfl rfl)) (l1Mul_ok h28 h29 (by first | decide | omega) (by first | decide | omega)) ?_)
 rintro _ w35 ⟨nr30, A31, n32, c33, rfl, e36, h34⟩
 have E37 := below_ext E25 E25.size e36
 have lh34 := Num.len (by decide) h34
 have H38 := (e36.blk H26)
 have H39 := (e36.blk H27)
 refine ⟨.inr ⟨H38, H39⟩, ?_⟩
 have h40 := (h22.ext e36)
 refine aw_one 10 rfl (by kernel_rfl) .none (oe_callf (vs := [.agg #[.bool nr18, .slice A19 n20 c21], .agg #[.bool nr30, .slice A31 n32 c33]]) co128 (ar2 (T rfl rfl) (T rfl rfl)) (l1Cmp_ok h40 h34 (by first | decide | omega) (by first | decide | omega)) ?_)
 rintro _ w41 ⟨rfl, e42⟩
 have E43 := below_ext E37 E37.size e42
 have H44 := (e42.blk H38)
 have H45 := (e42.blk H39)
 refine ⟨.inr ⟨H44, H45⟩, ?_⟩
 refine aw_last 11 (.int .i64 (sgnI ((x * r) - (p * u)))) rfl (by kernel_rfl) .none (fun _ => dv_assign (T rfl rfl)) ?_
 refine aw_done (by kernel_rfl) ?_
 refine rk_ret Try.func88 (v := .int .i64 (sgnI ((x * r) - (p * u)))) (res1 Try.results88 (rv_tmp rfl rfl)) ⟨_, rfl, ?_⟩
 exact ⟨(vi (by rfl)), E43⟩
set_option maxHeartbeats 1000000 in
theorem l3CmpY_ok {w : World}  {na : Bool} {Aa : Option Addr} {la ca : Nat} {x : Int} {sx : Nat} (ha : Num 32 183 .u32 w na Aa la ca x sx) {nb : Bool} {Ab : Option Addr} {lb cb : Nat} {y : Int} {sy : Nat} (hb : Num 32 183 .u32 w nb Ab lb cb y sy) {nm : Bool} {Am : Option Addr} {lm cm : Nat} {u : Int} {su : Nat} (hm : Num 32 183 .u32 w nm Am lm cm u su) {ne : Bool} {Ae : Option Addr} {le ce : Nat} {p : Int} {sp : Nat} (he : Num 32 183 .u32 w ne Ae le ce p sp) {nf : Bool} {Af : Option Addr} {lf cf : Nat} {q : Int} {sq : Nat} (hf : Num 32 183 .u32 w nf Af lf cf q sq) {ng : Bool} {Ag : Option Addr} {lg cg : Nat} {r : Int} {sr : Nat} (hg : Num 32 183 .u32 w ng Ag lg cg r sr) (hbsx : sx ≤ 100000) (hbsy : sy ≤ 100000) (hbsu : su ≤ 100000) (hbsp : sp ≤ 100000) (hbsq : sq ≤ 100000) (hbsr : sr ≤ 100000)  : Ct Try.prog 89 [.agg #[.bool na, .slice Aa la ca, .bool nb, .slice Ab lb cb, .bool nm, .slice Am lm cm], .agg #[.bool ne, .slice Ae le ce, .bool nf, .slice Af lf cf, .bool ng, .slice Ag lg cg]] w fun v w1 => v = .int .i64 (sgnI (y * r - q * u)) ∧ Ext w w1 := by
 refine ct_run (n := 16) Try.func89 rfl Try.ntmps89 rfl ?_
 have E0 : Below w.heap.size w w := Below.refl _ _
 have lha := Num.len (by decide) ha
 have lhb := Num.len (by decide) hb
 have lhm := Num.len (by decide) hm
 have lhe := Num.len (by decide) he
 have lhf := Num.len (by decide) hf
 have lhg := Num.len (by decide) hg
 refine rk_seq ?_
 refine rk_reg ?_
 refine lw_e (oe_box (v := .agg #[.bool na, .slice Aa la ca, .bool nb, .slice Ab lb cb, .bool nm, .slice Am lm cm]) (cs := #[.bool na, .slice Aa la ca, .bool nb, .slice Ab lb cb, .bool nm, .slice Am lm cm]) (T rfl rfl) rfl ?_)
 intro b1 w2 n3
 have N4 : w.heap.size ≤ b1 := n3.eq ▸ E0.size
 have E5 := below_ext E0 E0.size n3.ext
 refine lw_e (oe_box (v := .agg #[.bool ne, .slice Ae le ce, .bool nf, .slice Af lf cf, .bool ng, .slice Ag lg cg]) (cs := #[.bool ne, .slice Ae le ce, .bool nf, .slice Af lf cf, .bool ng, .slice Ag lg cg]) (T rfl rfl) rfl ?_)
 intro b6 w7 n8
 have N9 : w.heap.size ≤ b6 := n8.eq ▸ E5.size
 have : b1 < b6 := n8.eq ▸ lt_of_blk n3.blk
 have E10 := below_ext E5 E5.size n8.ext
 refine lw_v (.int .i64 0) (dv_assign C) ?_
 refine lw_nil ?_
 refine rk_seq ?_
 refine rk_any (fun w => w.heap[b1]? = some (.cells #[.bool na, .slice Aa la ca, .bool nb, .slice Ab lb cb, .bool nm, .slice Am lm cm] 102) ∧ w.heap[b6]? = some (.cells #[.bool ne, .slice Ae le ce, .bool nf, .slice Af lf cf, .bool ng, .slice Ag lg cg] 102)) [11] mo ?_
 intro w11 d12
 have E13 := below_ext E10 E10.size d12.ext
 have H14 := (d12.ext.blk (n8.ext.blk n3.blk))
 have H15 := (d12.ext.blk n8.blk)
 refine aw_pure 0 (.pointer (some ⟨b1, 2, none⟩)) rfl (by kernel_rfl) .none ⟨H14, H15⟩ (fun _ => dv_fieldAddr (a := ⟨b1, 0, none⟩) (a' := ⟨b1, 2, none⟩) fo102_1 (T rfl rfl) rfl) ?_
 refine aw_load 1 (.agg #[.bool nb, .slice Ab lb cb]) rfl (by kernel_rfl) .none ⟨H14, H15⟩ (fun _ s => dv_loads (l := [.bool nb, .slice Ab lb cb]) agt100 sz100 (T rfl rfl) s.1 rfl) ?_
 refine aw_pure 2 (.pointer (some ⟨b6, 4, none⟩)) rfl (by kernel_rfl) .none ⟨H14, H15⟩ (fun _ => dv_fieldAddr (a := ⟨b6, 0, none⟩) (a' := ⟨b6, 4, none⟩) fo102_2 (T rfl rfl) rfl) ?_
 refine aw_load 3 (.agg #[.bool ng, .slice Ag lg cg]) rfl (by kernel_rfl) .none ⟨H14, H15⟩ (fun _ s => dv_loads (l := [.bool ng, .slice Ag lg cg]) agt100 sz100 (T rfl rfl) s.2 rfl) ?_
 refine aw_pure 5 (.pointer (some ⟨b6, 2, none⟩)) rfl (by kernel_rfl) .none ⟨H14, H15⟩ (fun _ => dv_fieldAddr (a := ⟨b6, 0, none⟩) (a' := ⟨b6, 2, none⟩) fo102_1 (T rfl rfl) rfl) ?_
 refine aw_load 6 (.agg #[.bool nf, .slice Af lf cf]) rfl (by kernel_rfl) .none ⟨H14, H15⟩ (fun _ s => dv_loads (l := [.bool nf, .slice Af lf cf]) agt100 sz100 (T rfl rfl) s.2 rfl) ?_
 refine aw_pure 7 (.pointer (some ⟨b1, 4, none⟩)) rfl (by kernel_rfl) .none ⟨H14, H15⟩ (fun _ => dv_fieldAddr (a := ⟨b1, 0, none⟩) (a' := ⟨b1, 4, none⟩) fo102_2 (T rfl rfl) rfl) ?_
 refine aw_load 8 (.agg #[.bool nm, .slice Am lm cm]) rfl (by kernel_rfl) .none ⟨H14, H15⟩ (fun _ s => dv_loads (l := [.bool nm, .slice Am lm cm]) agt100 sz100 (T rfl rfl) s.1 rfl) ?_
 have h16 := (((hb.ext n3.ext).ext n8.ext).ext d12.ext)
 have h17 := (((hg.ext n3.ext).ext n8.ext).ext d12.ext)
 refine aw_one 4 rfl (by kernel_rfl) .none (oe_callf (vs := [.agg #[.bool nb, .slice Ab lb cb], .agg #[.bool ng, .slice Ag lg cg]]) co99 (ar2 (T rfl rfl) (T rfl rfl)) (l1Mul_ok h16 h17 (by first | decide | omega) (by first | decide | omega)) ?_)
 rintro _ w23 ⟨nr18, A19, n20, c21, rfl, e24, h22⟩
 have E25 := below_ext E13 E13.size e24
 have lh22 := Num.len (by decide) h22
 have H26 := (e24.blk H14)
 have H27 := (e24.blk H15)
 refine ⟨.inr ⟨H26, H27⟩, ?_⟩
 have h28 := ((((hf.ext n3.ext).ext n8.ext).ext d12.ext).ext e24)
 have h29 := ((((hm.ext n3.ext).ext n8.ext).ext d12.ext).ext e24)
 refine aw_one 9 rfl (by kernel_rfl) .none (oe_callf (vs := [.agg #[.bool nf, .slice Af lf cf], .agg #[.bool nm, .slice Am lm cm]]) co99 (ar2 (T rfl rfl) (T rfl rfl)) (l1Mul_ok h28 h29 (by first | decide | omega) (by first | decide | omega)) ?_)
 rintro _ w35 ⟨nr30, A31, n32, c33, rfl, e36, h34⟩
 have E37 := below_ext E25 E25.size e36
 have lh34 := Num.len (by decide) h34
 have H38 := (e36.blk H26)
 have H39 := (e36.blk H27)
 refine ⟨.inr ⟨H38, H39⟩, ?_⟩
 have h40 := (h22.ext e36)
 refine aw_one 10 rfl (by kernel_rfl) .none (oe_callf (vs := [.agg #[.bool nr18, .slice A19 n20 c21], .agg #[.bool nr30, .slice A31 n32 c33]]) co128 (ar2 (T rfl rfl) (T rfl rfl)) (l1Cmp_ok h40 h34 (by first | decide | omega) (by first | decide | omega)) ?_)
 rintro _ w41 ⟨rfl, e42⟩
 have E43 := below_ext E37 E37.size e42
 have H44 := (e42.blk H38)
 have H45 := (e42.blk H39)
 refine ⟨.inr ⟨H44, H45⟩, ?_⟩
 refine aw_last 11 (.int .i64 (sgnI ((y * r) - (q * u)))) rfl (by kernel_rfl) .none (fun _ => dv_assign (T rfl rfl)) ?_
 refine aw_done (by kernel_rfl) ?_
 refine rk_ret Try.func89 (v := .int .i64 (sgnI ((y * r) - (q * u)))) (res1 Try.results89 (rv_tmp rfl rfl)) ⟨_, rfl, ?_⟩
 exact ⟨(vi (by rfl)), E43⟩
set_option maxHeartbeats 1000000 in
theorem l3Cmp_ok {w : World}  {na : Bool} {Aa : Option Addr} {la ca : Nat} {x : Int} {sx : Nat} (ha : Num 32 183 .u32 w na Aa la ca x sx) {nb : Bool} {Ab : Option Addr} {lb cb : Nat} {y : Int} {sy : Nat} (hb : Num 32 183 .u32 w nb Ab lb cb y sy) {nm : Bool} {Am : Option Addr} {lm cm : Nat} {u : Int} {su : Nat} (hm : Num 32 183 .u32 w nm Am lm cm u su) {ne : Bool} {Ae : Option Addr} {le ce : Nat} {p : Int} {sp : Nat} (he : Num 32 183 .u32 w ne Ae le ce p sp) {nf : Bool} {Af : Option Addr} {lf cf : Nat} {q : Int} {sq : Nat} (hf : Num 32 183 .u32 w nf Af lf cf q sq) {ng : Bool} {Ag : Option Addr} {lg cg : Nat} {r : Int} {sr : Nat} (hg : Num 32 183 .u32 w ng Ag lg cg r sr) (hbsx : sx ≤ 100000) (hbsy : sy ≤ 100000) (hbsu : su ≤ 100000) (hbsp : sp ≤ 100000) (hbsq : sq ≤ 100000) (hbsr : sr ≤ 100000)  : Ct Try.prog 113 [.agg #[.bool na, .slice Aa la ca, .bool nb, .slice Ab lb cb, .bool nm, .slice Am lm cm], .agg #[.bool ne, .slice Ae le ce, .bool nf, .slice Af lf cf, .bool ng, .slice Ag lg cg]] w fun v w1 => v = .int .i64 (pc x y u p q r) ∧ Ext w w1 := by
 refine ct_run (n := 15) Try.func113 rfl Try.ntmps113 rfl ?_
 have E0 : Below w.heap.size w w := Below.refl _ _
 have lha := Num.len (by decide) ha
 have lhb := Num.len (by decide) hb
 have lhm := Num.len (by decide) hm
 have lhe := Num.len (by decide) he
 have lhf := Num.len (by decide) hf
 have lhg := Num.len (by decide) hg
 refine rk_seq ?_
 refine rk_reg ?_
 refine lw_e (oe_box (v := .agg #[.bool na, .slice Aa la ca, .bool nb, .slice Ab lb cb, .bool nm, .slice Am lm cm]) (cs := #[.bool na, .slice Aa la ca, .bool nb, .slice Ab lb cb, .bool nm, .slice Am lm cm]) (T rfl rfl) rfl ?_)
 intro b1 w2 n3
 have N4 : w.heap.size ≤ b1 := n3.eq ▸ E0.size
 have E5 := below_ext E0 E0.size n3.ext
 refine lw_e (oe_box (v := .agg #[.bool ne, .slice Ae le ce, .bool nf, .slice Af lf cf, .bool ng, .slice Ag lg cg]) (cs := #[.bool ne, .slice Ae le ce, .bool nf, .slice Af lf cf, .bool ng, .slice Ag lg cg]) (T rfl rfl) rfl ?_)
 intro b6 w7 n8
 have N9 : w.heap.size ≤ b6 := n8.eq ▸ E5.size
 have : b1 < b6 := n8.eq ▸ lt_of_blk n3.blk
 have E10 := below_ext E5 E5.size n8.ext
 refine lw_v (.int .i64 0) (dv_assign C) ?_
 refine lw_nil ?_
 refine rk_seq ?_
 refine rk_reg ?_
 have H11 := (n8.ext.blk n3.blk)
 refine lw_v (.agg #[.bool na, .slice Aa la ca, .bool nb, .slice Ab lb cb, .bool nm, .slice Am lm cm]) (dv_loads (l := [.bool na, .slice Aa la ca, .bool nb, .slice Ab lb cb, .bool nm, .slice Am lm cm]) agt102 sz102 (T rfl rfl) H11 rfl) ?_
 refine lw_v (.agg #[.bool ne, .slice Ae le ce, .bool nf, .slice Af lf cf, .bool ng, .slice Ag lg cg]) (dv_loads (l := [.bool ne, .slice Ae le ce, .bool nf, .slice Af lf cf, .bool ng, .slice Ag lg cg]) agt102 sz102 (T rfl rfl) n8.blk rfl) ?_
 have h12 := ((ha.ext n3.ext).ext n8.ext)
 have h13 := ((hb.ext n3.ext).ext n8.ext)
 have h14 := ((hm.ext n3.ext).ext n8.ext)
 have h15 := ((he.ext n3.ext).ext n8.ext)
 have h16 := ((hf.ext n3.ext).ext n8.ext)
 have h17 := ((hg.ext n3.ext).ext n8.ext)
 refine lw_e (oe_callf (vs := [.agg #[.bool na, .slice Aa la ca, .bool nb, .slice Ab lb cb, .bool nm, .slice Am lm cm], .agg #[.bool ne, .slice Ae le ce, .bool nf, .slice Af lf cf, .bool ng, .slice Ag lg cg]]) co88 (ar2 (T rfl rfl) (T rfl rfl)) (l3CmpX_ok h12 h13 h14 h15 h16 h17 (by first | decide | omega) (by first | decide | omega) (by first | decide | omega) (by first | decide | omega) (by first | decide | omega) (by first | decide | omega) ) ?_)
 rintro _ w18 ⟨rfl, e19⟩
 have E20 := below_ext E10 E10.size e19
 refine lw_v (.int .i64 (sgnI (x * r - p * u))) (dv_assign (T rfl rfl)) ?_
 refine lw_nil ?_
 refine rk_seq ?_
 refine rk_seq ?_
 refine rk_reg ?_
 refine lw_v (.int .i64 (sgnI (x * r - p * u))) (dv_move (T rfl rfl)) ?_
 refine lw_v (.bool (decide ((sgnI (x * r - p * u)) ≠ 0))) (dv_neq (a := sgnI (x * r - p * u)) (b := 0) (T rfl rfl) C) ?_
 refine lw_nil ?_
 by_cases hb21 : (sgnI (x * r - p * u)) ≠ 0
 · refine rk_ct (T rfl (congrArg Value.bool (decide_eq_true hb21))) ?_
   refine rk_seq ?_
   refine rk_reg ?_
   refine lw_v (.int .i64 (sgnI (x * r - p * u))) (dv_move (T rfl rfl)) ?_
   refine lw_v (.int .i64 (sgnI (x * r - p * u))) (dv_assign (T rfl rfl)) ?_
   refine lw_nil ?_
   refine rk_ret Try.func113 (v := .int .i64 (sgnI (x * r - p * u))) (res1 Try.results113 (rv_tmp rfl rfl)) ⟨_, rfl, ?_⟩
   exact ⟨(vi (by unfold pc; first | rw [if_pos (by assumption)] | rw [if_neg (by assumption)])), E20⟩
 · refine rk_cf (T rfl (congrArg Value.bool (decide_eq_false hb21))) ?_
   refine rk_skip ?_
   refine rk_seq ?_
   refine rk_reg ?_
   have H22 := (e19.blk H11)
   refine lw_v (.agg #[.bool na, .slice Aa la ca, .bool nb, .slice Ab lb cb, .bool nm, .slice Am lm cm]) (dv_loads (l := [.bool na, .slice Aa la ca, .bool nb, .slice Ab lb cb, .bool nm, .slice Am lm cm]) agt102 sz102 (T rfl rfl) H22 rfl) ?_
   have H23 := (e19.blk n8.blk)
   refine lw_v (.agg #[.bool ne, .slice Ae le ce, .bool nf, .slice Af lf cf, .bool ng, .slice Ag lg cg]) (dv_loads (l := [.bool ne, .slice Ae le ce, .bool nf, .slice Af lf cf, .bool ng, .slice Ag lg cg]) agt102 sz102 (T rfl rfl) H23 rfl) ?_
   have h24 := (h12.ext e19)
   have h25 := (h13.ext e19)
   have h26 := (h14.ext e19)
   have h27 := (h15.ext e19)
   have h28 := (h16.ext e19)
   have h29 := (h17.ext e19)
   refine lw_e (oe_callf (vs := [.agg #[.bool na, .slice Aa la ca, .bool nb, .slice Ab lb cb, .bool nm, .slice Am lm cm], .agg #[.bool ne, .slice Ae le ce, .bool nf, .slice Af lf cf, .bool ng, .slice Ag lg cg]]) co89 (ar2 (T rfl rfl) (T rfl rfl)) (l3CmpY_ok h24 h25 h26 h27 h28 h29 (by first | decide | omega) (by first | decide | omega) (by first | decide | omega) (by first | decide | omega) (by first | decide | omega) (by first | decide | omega) ) ?_)
   rintro _ w30 ⟨rfl, e31⟩
   have E32 := below_ext E20 E20.size e31
   refine lw_v (.int .i64 (sgnI (y * r - q * u))) (dv_assign (T rfl rfl)) ?_
   refine lw_nil ?_
   refine rk_ret Try.func113 (v := .int .i64 (sgnI (y * r - q * u))) (res1 Try.results113 (rv_tmp rfl rfl)) ⟨_, rfl, ?_⟩
   exact ⟨(vi (by unfold pc; first | rw [if_pos (by assumption)] | rw [if_neg (by assumption)])), E32⟩
set_option maxHeartbeats 1000000 in
theorem cmpPoints_ok {w : World} {x y u p q r : Int} (fx_ : fits x) (fy_ : fits y) (fu_ : fits u) (fp_ : fits p) (fq_ : fits q) (fr_ : fits r)  : Ct Try.prog 117 [.agg #[.int .u64 (wv3 x), .int .u64 (wv2 x), .int .u64 (wv1 x), .int .u64 (wv0 x), .int .u64 (wv3 y), .int .u64 (wv2 y), .int .u64 (wv1 y), .int .u64 (wv0 y), .int .u64 (wv3 u), .int .u64 (wv2 u), .int .u64 (wv1 u), .int .u64 (wv0 u)], .agg #[.int .u64 (wv3 p), .int .u64 (wv2 p), .int .u64 (wv1 p), .int .u64 (wv0 p), .int .u64 (wv3 q), .int .u64 (wv2 q), .int .u64 (wv1 q), .int .u64 (wv0 q), .int .u64 (wv3 r), .int .u64 (wv2 r), .int .u64 (wv1 r), .int .u64 (wv0 r)]] w fun v w1 => v = .int .i64 (pc x y u p q r) ∧ Ext w w1 := by
 refine ct_run (n := 40) Try.func117 rfl Try.ntmps117 rfl ?_
 have E0 : Below w.heap.size w w := Below.refl _ _
 refine rk_seq ?_
 refine rk_reg ?_
 refine lw_e (oe_box (v := .agg #[.int .u64 (wv3 x), .int .u64 (wv2 x), .int .u64 (wv1 x), .int .u64 (wv0 x), .int .u64 (wv3 y), .int .u64 (wv2 y), .int .u64 (wv1 y), .int .u64 (wv0 y), .int .u64 (wv3 u), .int .u64 (wv2 u), .int .u64 (wv1 u), .int .u64 (wv0 u)]) (cs := #[.int .u64 (wv3 x), .int .u64 (wv2 x), .int .u64 (wv1 x), .int .u64 (wv0 x), .int .u64 (wv3 y), .int .u64 (wv2 y), .int .u64 (wv1 y), .int .u64 (wv0 y), .int .u64 (wv3 u), .int .u64 (wv2 u), .int .u64 (wv1 u), .int .u64 (wv0 u)]) (T rfl rfl) rfl ?_)
 intro b1 w2 n3
 have N4 : w.heap.size ≤ b1 := n3.eq ▸ E0.size
 have E5 := below_ext E0 E0.size n3.ext
 refine lw_e (oe_box (v := .agg #[.int .u64 (wv3 p), .int .u64 (wv2 p), .int .u64 (wv1 p), .int .u64 (wv0 p), .int .u64 (wv3 q), .int .u64 (wv2 q), .int .u64 (wv1 q), .int .u64 (wv0 q), .int .u64 (wv3 r), .int .u64 (wv2 r), .int .u64 (wv1 r), .int .u64 (wv0 r)]) (cs := #[.int .u64 (wv3 p), .int .u64 (wv2 p), .int .u64 (wv1 p), .int .u64 (wv0 p), .int .u64 (wv3 q), .int .u64 (wv2 q), .int .u64 (wv1 q), .int .u64 (wv0 q), .int .u64 (wv3 r), .int .u64 (wv2 r), .int .u64 (wv1 r), .int .u64 (wv0 r)]) (T rfl rfl) rfl ?_)
 intro b6 w7 n8
 have N9 : w.heap.size ≤ b6 := n8.eq ▸ E5.size
 have : b1 < b6 := n8.eq ▸ lt_of_blk n3.blk
 have E10 := below_ext E5 E5.size n8.ext
 refine lw_v (.int .i64 0) (dv_assign C) ?_
 refine lw_nil ?_
 refine rk_seq ?_
 refine rk_seq ?_
 refine rk_reg ?_
 have H11 := (n8.ext.blk n3.blk)
 refine lw_v (.agg #[.int .u64 (wv3 x), .int .u64 (wv2 x), .int .u64 (wv1 x), .int .u64 (wv0 x), .int .u64 (wv3 y), .int .u64 (wv2 y), .int .u64 (wv1 y), .int .u64 (wv0 y), .int .u64 (wv3 u), .int .u64 (wv2 u), .int .u64 (wv1 u), .int .u64 (wv0 u)]) (dv_loads (l := [.int .u64 (wv3 x), .int .u64 (wv2 x), .int .u64 (wv1 x), .int .u64 (wv0 x), .int .u64 (wv3 y), .int .u64 (wv2 y), .int .u64 (wv1 y), .int .u64 (wv0 y), .int .u64 (wv3 u), .int .u64 (wv2 u), .int .u64 (wv1 u), .int .u64 (wv0 u)]) agt37 sz37 (T rfl rfl) H11 rfl) ?_
 refine lw_v (.agg #[.int .u64 (wv3 p), .int .u64 (wv2 p), .int .u64 (wv1 p), .int .u64 (wv0 p), .int .u64 (wv3 q), .int .u64 (wv2 q), .int .u64 (wv1 q), .int .u64 (wv0 q), .int .u64 (wv3 r), .int .u64 (wv2 r), .int .u64 (wv1 r), .int .u64 (wv0 r)]) (dv_loads (l := [.int .u64 (wv3 p), .int .u64 (wv2 p), .int .u64 (wv1 p), .int .u64 (wv0 p), .int .u64 (wv3 q), .int .u64 (wv2 q), .int .u64 (wv1 q), .int .u64 (wv0 q), .int .u64 (wv3 r), .int .u64 (wv2 r), .int .u64 (wv1 r), .int .u64 (wv0 r)]) agt37 sz37 (T rfl rfl) n8.blk rfl) ?_
 refine lw_v (.bool (decide (([wv3 x, wv2 x, wv1 x, wv0 x, wv3 y, wv2 y, wv1 y, wv0 y, wv3 u, wv2 u, wv1 u, wv0 u] : List Int) = [wv3 p, wv2 p, wv1 p, wv0 p, wv3 q, wv2 q, wv1 q, wv0 q, wv3 r, wv2 r, wv1 r, wv0 r]))) (dv_eqln (k := .u64) (la := [wv3 x, wv2 x, wv1 x, wv0 x, wv3 y, wv2 y, wv1 y, wv0 y, wv3 u, wv2 u, wv1 u, wv0 u]) (lb := [wv3 p, wv2 p, wv1 p, wv0 p, wv3 q, wv2 q, wv1 q, wv0 q, wv3 r, wv2 r, wv1 r, wv0 r]) fl37 eg37 (T rfl rfl) (T rfl rfl) rfl rfl) ?_
 refine lw_nil ?_
 by_cases hb12 : ([wv3 x, wv2 x, wv1 x, wv0 x, wv3 y, wv2 y, wv1 y, wv0 y, wv3 u, wv2 u, wv1 u, wv0 u] : List Int) = [wv3 p, wv2 p, wv1 p, wv0 p, wv3 q, wv2 q, wv1 q, wv0 q, wv3 r, wv2 r, wv1 r, wv0 r]
 · have hz13 := (wl3_eq fx_ fy_ fu_ fp_ fq_ fr_).1 hb12
   refine rk_ct (T rfl (congrArg Value.bool (decide_eq_true hb12))) ?_
   refine rk_seq ?_
   refine rk_reg ?_
   refine lw_v (.int .i64 0) (dv_assign C) ?_
   refine lw_nil ?_
   refine rk_ret Try.func117 (v := .int .i64 0) (res1 Try.results117 (rv_tmp rfl rfl)) ⟨_, rfl, ?_⟩
   exact ⟨(vi (by exact (by first | (obtain ⟨rfl, rfl, rfl⟩ : x = p ∧ y = q ∧ u = r := ‹_›; exact (pc_self ..).symm) | (unfold pc; first | rw [if_pos (by assumption)] | rw [if_neg (by assumption)])))), E10⟩
 · have hz14 := mt (wl3_eq fx_ fy_ fu_ fp_ fq_ fr_).2 hb12
   refine rk_cf (T rfl (congrArg Value.bool (decide_eq_false hb12))) ?_
   refine rk_skip ?_
   refine rk_seq ?_
   have : b1 < w7.heap.size := lt_of_blk H11
   have : b6 < w7.heap.size := lt_of_blk n8.blk
   have : w.heap.size ≤ w7.heap.size := E10.size
   refine rk_par2 [fun vq wq_ => vq = .agg #[.int .u64 (wv3 x), .int .u64 (wv2 x), .int .u64 (wv1 x), .int .u64 (wv0 x), .int .u64 (wv3 y), .int .u64 (wv2 y), .int .u64 (wv1 y), .int .u64 (wv0 y), .int .u64 (wv3 u), .int .u64 (wv2 u), .int .u64 (wv1 u), .int .u64 (wv0 u)], fun vq wq_ => ∃ (nr29 : Bool) (A30 : Option Addr) (n31 : Nat) (c32 : Nat) (nr33 : Bool) (A34 : Option Addr) (n35 : Nat) (c36 : Nat) (nr37 : Bool) (A38 : Option Addr) (n39 : Nat) (c40 : Nat), vq = .agg #[.bool nr29, .slice A30 n31 c32, .bool nr33, .slice A34 n35 c36, .bool nr37, .slice A38 n39 c40] ∧ Num 64 29 .u64 wq_ nr29 A30 n31 c32 x 256 ∧ Num 64 29 .u64 wq_ nr33 A34 n35 c36 y 256 ∧ Num 64 29 .u64 wq_ nr37 A38 n39 c40 u 256, fun vq wq_ => vq = .agg #[.int .u64 (wv3 p), .int .u64 (wv2 p), .int .u64 (wv1 p), .int .u64 (wv0 p), .int .u64 (wv3 q), .int .u64 (wv2 q), .int .u64 (wv1 q), .int .u64 (wv0 q), .int .u64 (wv3 r), .int .u64 (wv2 r), .int .u64 (wv1 r), .int .u64 (wv0 r)], fun vq wq_ => ∃ (nr61 : Bool) (A62 : Option Addr) (n63 : Nat) (c64 : Nat) (nr65 : Bool) (A66 : Option Addr) (n67 : Nat) (c68 : Nat) (nr69 : Bool) (A70 : Option Addr) (n71 : Nat) (c72 : Nat), vq = .agg #[.bool nr61, .slice A62 n63 c64, .bool nr65, .slice A66 n67 c68, .bool nr69, .slice A70 n71 c72] ∧ Num 64 29 .u64 wq_ nr61 A62 n63 c64 p 256 ∧ Num 64 29 .u64 wq_ nr65 A66 n67 c68 q 256 ∧ Num 64 29 .u64 wq_ nr69 A70 n71 c72 r 256, fun _ _ => True, fun _ _ => True, fun _ _ => True, fun _ _ => True] [⟨4, 6, 1, 122, #[.bool false, .slice none 0 0, .bool false, .slice none 0 0, .bool false, .slice none 0 0]⟩, ⟨5, 7, 3, 122, #[.bool false, .slice none 0 0, .bool false, .slice none 0 0, .bool false, .slice none 0 0]⟩] [122] mo (by kernel_rfl) (by kernel_rfl) ?_ ?_ ?_ ?_ ?_
   · intro e he e2 he2 h; simp only [List.mem_cons, List.not_mem_nil, or_false] at he he2; rcases he with rfl | rfl <;> rcases he2 with rfl | rfl <;> first | rfl | exact absurd h (by decide)
   · exact ⟨⟨fun v w w2 e h => h, fun v w w2 b cs T fz s hb hT h => h⟩, ⟨fun v w w2 e ⟨nr29, A30, n31, c32, nr33, A34, n35, c36, nr37, A38, n39, c40, hv, h0_, h1_, h2_⟩ => ⟨nr29, A30, n31, c32, nr33, A34, n35, c36, nr37, A38, n39, c40, hv, h0_.ext e, h1_.ext e, h2_.ext e⟩, fun v w w2 b cs T fz s hb hT ⟨nr29, A30, n31, c32, nr33, A34, n35, c36, nr37, A38, n39, c40, hv, h0_, h1_, h2_⟩ => ⟨nr29, A30, n31, c32, nr33, A34, n35, c36, nr37, A38, n39, c40, hv, h0_.st s hb (ts_ne hT (by decide)), h1_.st s hb (ts_ne hT (by decide)), h2_.st s hb (ts_ne hT (by decide))⟩⟩, ⟨fun v w w2 e h => h, fun v w w2 b cs T fz s hb hT h => h⟩, ⟨fun v w w2 e ⟨nr61, A62, n63, c64, nr65, A66, n67, c68, nr69, A70, n71, c72, hv, h0_, h1_, h2_⟩ => ⟨nr61, A62, n63, c64, nr65, A66, n67, c68, nr69, A70, n71, c72, hv, h0_.ext e, h1_.ext e, h2_.ext e⟩, fun v w w2 b cs T fz s hb hT ⟨nr61, A62, n63, c64, nr65, A66, n67, c68, nr69, A70, n71, c72, hv, h0_, h1_, h2_⟩ => ⟨nr61, A62, n63, c64, nr65, A66, n67, c68, nr69, A70, n71, c72, hv, h0_.st s hb (ts_ne hT (by decide)), h1_.st s hb (ts_ne hT (by decide)), h2_.st s hb (ts_ne hT (by decide))⟩⟩, ⟨fun v w w2 e h => h, fun v w w2 b cs T fz s hb hT h => h⟩, ⟨fun v w w2 e h => h, fun v w w2 b cs T fz s hb hT h => h⟩, ⟨fun v w w2 e h => h, fun v w w2 b cs T fz s hb hT h => h⟩, ⟨fun v w w2 e h => h, fun v w w2 b cs T fz s hb hT h => h⟩, trivial⟩
   · refine ⟨?_, ?_, ?_, ?_, ?_, ?_, ?_, ?_, trivial⟩
     · refine .inr ⟨by kernel_rfl, ?_⟩
       intro fr16 w15 e17 hF18 hD19
       have E20 := below_ext E10 E10.size e17
       have H21 := (e17.blk H11)
       exact DV.oe (dv_loads (l := [.int .u64 (wv3 x), .int .u64 (wv2 x), .int .u64 (wv1 x), .int .u64 (wv0 x), .int .u64 (wv3 y), .int .u64 (wv2 y), .int .u64 (wv1 y), .int .u64 (wv0 y), .int .u64 (wv3 u), .int .u64 (wv2 u), .int .u64 (wv1 u), .int .u64 (wv0 u)]) agt37 sz37 (T rfl (hF18 2 (by kernel_rfl))) H21 rfl) ⟨Below.refl _ _, rfl⟩
     · refine .inr ⟨by kernel_rfl, ?_⟩
       intro fr23 w22 e24 hF25 hD26
       have E27 := below_ext E10 E10.size e24
       have hv28 : fr23 11 = .agg #[.int .u64 (wv3 x), .int .u64 (wv2 x), .int .u64 (wv1 x), .int .u64 (wv0 x), .int .u64 (wv3 y), .int .u64 (wv2 y), .int .u64 (wv1 y), .int .u64 (wv0 y), .int .u64 (wv3 u), .int .u64 (wv2 u), .int .u64 (wv1 u), .int .u64 (wv0 u)] := hD26 0 _ (by kernel_rfl) rfl (by kernel_rfl)
       refine id (oe_callf (vs := [.agg #[.int .u64 (wv3 x), .int .u64 (wv2 x), .int .u64 (wv1 x), .int .u64 (wv0 x), .int .u64 (wv3 y), .int .u64 (wv2 y), .int .u64 (wv1 y), .int .u64 (wv0 y), .int .u64 (wv3 u), .int .u64 (wv2 u), .int .u64 (wv1 u), .int .u64 (wv0 u)]]) co90 (ar1 (T rfl hv28)) (spot_ok fx_ fy_ fu_  ) ?_)
       rintro _ w44 ⟨nr29, A30, n31, c32, nr33, A34, n35, c36, nr37, A38, n39, c40, rfl, e45, h41, h42, h43⟩
       have E46 := below_ext E27 E27.size e45
       have lh41 := Num.len (by decide) h41
       have lh42 := Num.len (by decide) h42
       have lh43 := Num.len (by decide) h43
       exact ⟨e45, nr29, A30, n31, c32, nr33, A34, n35, c36, nr37, A38, n39, c40, rfl, h41, h42, h43⟩
     · refine .inr ⟨by kernel_rfl, ?_⟩
       intro fr48 w47 e49 hF50 hD51
       have E52 := below_ext E10 E10.size e49
       have H53 := (e49.blk n8.blk)
       exact DV.oe (dv_loads (l := [.int .u64 (wv3 p), .int .u64 (wv2 p), .int .u64 (wv1 p), .int .u64 (wv0 p), .int .u64 (wv3 q), .int .u64 (wv2 q), .int .u64 (wv1 q), .int .u64 (wv0 q), .int .u64 (wv3 r), .int .u64 (wv2 r), .int .u64 (wv1 r), .int .u64 (wv0 r)]) agt37 sz37 (T rfl (hF50 3 (by kernel_rfl))) H53 rfl) ⟨Below.refl _ _, rfl⟩
     · refine .inr ⟨by kernel_rfl, ?_⟩
       intro fr55 w54 e56 hF57 hD58
       have E59 := below_ext E10 E10.size e56
       have hv60 : fr55 13 = .agg #[.int .u64 (wv3 p), .int .u64 (wv2 p), .int .u64 (wv1 p), .int .u64 (wv0 p), .int .u64 (wv3 q), .int .u64 (wv2 q), .int .u64 (wv1 q), .int .u64 (wv0 q), .int .u64 (wv3 r), .int .u64 (wv2 r), .int .u64 (wv1 r), .int .u64 (wv0 r)] := hD58 2 _ (by kernel_rfl) rfl (by kernel_rfl)
       refine id (oe_callf (vs := [.agg #[.int .u64 (wv3 p), .int .u64 (wv2 p), .int .u64 (wv1 p), .int .u64 (wv0 p), .int .u64 (wv3 q), .int .u64 (wv2 q), .int .u64 (wv1 q), .int .u64 (wv0 q), .int .u64 (wv3 r), .int .u64 (wv2 r), .int .u64 (wv1 r), .int .u64 (wv0 r)]]) co90 (ar1 (T rfl hv60)) (spot_ok fp_ fq_ fr_  ) ?_)
       rintro _ w76 ⟨nr61, A62, n63, c64, nr65, A66, n67, c68, nr69, A70, n71, c72, rfl, e77, h73, h74, h75⟩
       have E78 := below_ext E59 E59.size e77
       have lh73 := Num.len (by decide) h73
       have lh74 := Num.len (by decide) h74
       have lh75 := Num.len (by decide) h75
       exact ⟨e77, nr61, A62, n63, c64, nr65, A66, n67, c68, nr69, A70, n71, c72, rfl, h73, h74, h75⟩
     · exact .inl (.inr ⟨by kernel_rfl, fun _ _ => trivial⟩)
     · exact .inl (.inr ⟨by kernel_rfl, fun _ _ => trivial⟩)
     · exact .inl (.inl (by kernel_rfl))
     · exact .inl (.inl (by kernel_rfl))
   · refine ⟨⟨⟨_, rfl, fun _ _ => oe_alloc ze122 fun b w hn => ⟨b, rfl, hn⟩⟩, ⟨_, rfl, ?_⟩⟩, ⟨⟨_, rfl, fun _ _ => oe_alloc ze122 fun b w hn => ⟨b, rfl, hn⟩⟩, ⟨_, rfl, ?_⟩⟩, trivial⟩
     · intro fr80 w79 b84 e81 hF82 hD83 hA85 hB86
       have E87 := below_ext E10 E10.size e81
       obtain ⟨nr88, A89, n90, c91, nr92, A93, n94, c95, nr96, A97, n98, c99, hv100, hp101, hp102, hp103⟩ : ∃ (nr29 : Bool) (A30 : Option Addr) (n31 : Nat) (c32 : Nat) (nr33 : Bool) (A34 : Option Addr) (n35 : Nat) (c36 : Nat) (nr37 : Bool) (A38 : Option Addr) (n39 : Nat) (c40 : Nat), fr80 12 = .agg #[.bool nr29, .slice A30 n31 c32, .bool nr33, .slice A34 n35 c36, .bool nr37, .slice A38 n39 c40] ∧ Num 64 29 .u64 w79 nr29 A30 n31 c32 x 256 ∧ Num 64 29 .u64 w79 nr33 A34 n35 c36 y 256 ∧ Num 64 29 .u64 w79 nr37 A38 n39 c40 u 256 := hD83 1 _ (by kernel_rfl) rfl (by kernel_rfl)
       have lhp101 := Num.len (by decide) hp101
       have lhp102 := Num.len (by decide) hp102
       have lhp103 := Num.len (by decide) hp103
       refine id (oe_store (v := .agg #[.bool nr88, .slice A89 n90 c91, .bool nr92, .slice A93 n94 c95, .bool nr96, .slice A97 n98 c99]) (vs := [.bool nr88, .slice A89 n90 c91, .bool nr92, .slice A93 n94 c95, .bool nr96, .slice A97 n98 c99]) (l := [.bool nr88, .slice A89 n90 c91, .bool nr92, .slice A93 n94 c95, .bool nr96, .slice A97 n98 c99]) (T rfl hA85) (T rfl hv100) sz122 rfl rfl rfl hB86 rfl ?_)
       intro w104 s105 H106
       exact ⟨s105, H106.trans (congrArg (fun v : Value => some (Obj.cells v.cells 122)) (show fr80 12 = _ from hv100).symm)⟩
     · intro fr109 w108 b113 e110 hF111 hD112 hA114 hB115
       have E116 := below_ext E10 E10.size e110
       obtain ⟨nr117, A118, n119, c120, nr121, A122, n123, c124, nr125, A126, n127, c128, hv129, hp130, hp131, hp132⟩ : ∃ (nr61 : Bool) (A62 : Option Addr) (n63 : Nat) (c64 : Nat) (nr65 : Bool) (A66 : Option Addr) (n67 : Nat) (c68 : Nat) (nr69 : Bool) (A70 : Option Addr) (n71 : Nat) (c72 : Nat), fr109 14 = .agg #[.bool nr61, .slice A62 n63 c64, .bool nr65, .slice A66 n67 c68, .bool nr69, .slice A70 n71 c72] ∧ Num 64 29 .u64 w108 nr61 A62 n63 c64 p 256 ∧ Num 64 29 .u64 w108 nr65 A66 n67 c68 q 256 ∧ Num 64 29 .u64 w108 nr69 A70 n71 c72 r 256 := hD112 3 _ (by kernel_rfl) rfl (by kernel_rfl)
       have lhp130 := Num.len (by decide) hp130
       have lhp131 := Num.len (by decide) hp131
       have lhp132 := Num.len (by decide) hp132
       refine id (oe_store (v := .agg #[.bool nr117, .slice A118 n119 c120, .bool nr121, .slice A122 n123 c124, .bool nr125, .slice A126 n127 c128]) (vs := [.bool nr117, .slice A118 n119 c120, .bool nr121, .slice A122 n123 c124, .bool nr125, .slice A126 n127 c128]) (l := [.bool nr117, .slice A118 n119 c120, .bool nr121, .slice A122 n123 c124, .bool nr125, .slice A126 n127 c128]) (T rfl hA114) (T rfl hv129) sz122 rfl rfl rfl hB115 rfl ?_)
       intro w133 s134 H135
       exact ⟨s134, H135.trans (congrArg (fun v : Value => some (Obj.cells v.cells 122)) (show fr109 14 = _ from hv129).symm)⟩
   intro fr138 w137 e139 hF140 hP141 hM142 hN143
   have E144 := below_ext E10 E10.size e139
   obtain ⟨_, p145, _, p146, _, _, _, _, _⟩ := hP141
   obtain ⟨nr147, A148, n149, c150, nr151, A152, n153, c154, nr155, A156, n157, c158, hv159, hp160, hp161, hp162⟩ : ∃ (nr29 : Bool) (A30 : Option Addr) (n31 : Nat) (c32 : Nat) (nr33 : Bool) (A34 : Option Addr) (n35 : Nat) (c36 : Nat) (nr37 : Bool) (A38 : Option Addr) (n39 : Nat) (c40 : Nat), fr138 12 = .agg #[.bool nr29, .slice A30 n31 c32, .bool nr33, .slice A34 n35 c36, .bool nr37, .slice A38 n39 c40] ∧ Num 64 29 .u64 w137 nr29 A30 n31 c32 x 256 ∧ Num 64 29 .u64 w137 nr33 A34 n35 c36 y 256 ∧ Num 64 29 .u64 w137 nr37 A38 n39 c40 u 256 := p145.resolve_left (nst (by kernel_rfl))
   have lhp160 := Num.len (by decide) hp160
   have lhp161 := Num.len (by decide) hp161
   have lhp162 := Num.len (by decide) hp162
   obtain ⟨nr163, A164, n165, c166, nr167, A168, n169, c170, nr171, A172, n173, c174, hv175, hp176, hp177, hp178⟩ : ∃ (nr61 : Bool) (A62 : Option Addr) (n63 : Nat) (c64 : Nat) (nr65 : Bool) (A66 : Option Addr) (n67 : Nat) (c68 : Nat) (nr69 : Bool) (A70 : Option Addr) (n71 : Nat) (c72 : Nat), fr138 14 = .agg #[.bool nr61, .slice A62 n63 c64, .bool nr65, .slice A66 n67 c68, .bool nr69, .slice A70 n71 c72] ∧ Num 64 29 .u64 w137 nr61 A62 n63 c64 p 256 ∧ Num 64 29 .u64 w137 nr65 A66 n67 c68 q 256 ∧ Num 64 29 .u64 w137 nr69 A70 n71 c72 r 256 := p146.resolve_left (nst (by kernel_rfl))
   have lhp176 := Num.len (by decide) hp176
   have lhp177 := Num.len (by decide) hp177
   have lhp178 := Num.len (by decide) hp178
   obtain ⟨⟨b179, hA180, hB181, hC182⟩, ⟨b183, hA184, hB185, hC186⟩, _⟩ := hM142
   have H187 : w137.heap[b179]? = some (.cells #[.bool nr147, .slice A148 n149 c150, .bool nr151, .slice A152 n153 c154, .bool nr155, .slice A156 n157 c158] 122) := hC182.trans (congrArg (fun v : Value => some (Obj.cells v.cells 122)) hv159)
   have N188 : w.heap.size ≤ b179 := by omega
   have H189 : w137.heap[b183]? = some (.cells #[.bool nr163, .slice A164 n165 c166, .bool nr167, .slice A168 n169 c170, .bool nr171, .slice A172 n173 c174] 122) := hC186.trans (congrArg (fun v : Value => some (Obj.cells v.cells 122)) hv175)
   have N190 : w.heap.size ≤ b183 := by omega
   have : b183 ≠ b179 := fun hh => hN143 _ (.tail _ (.head _)) _ (.head _) (by decide) (hA184.trans ((congrArg (fun q => Value.pointer (some ⟨q, 0, none⟩)) hh).trans hA180.symm))
   refine rk_seq ?_
   refine rk_seq ?_
   refine rk_any (fun w => w.heap[b179]? = some (.cells #[.bool nr147, .slice A148 n149 c150, .bool nr151, .slice A152 n153 c154, .bool nr155, .slice A156 n157 c158] 122) ∧ w.heap[b183]? = some (.cells #[.bool nr163, .slice A164 n165 c166, .bool nr167, .slice A168 n169 c170, .bool nr171, .slice A172 n173 c174] 122)) [11] mo ?_
   intro w191 d192
   have E193 := below_ext E144 E144.size d192.ext
   have H194 := (d192.ext.blk H187)
   have H195 := (d192.ext.blk H189)
   refine aw_pure 0 (.pointer (some ⟨b179, 0, none⟩)) rfl (by kernel_rfl) .none ⟨H194, H195⟩ (fun _ => dv_fieldAddr (a := ⟨b179, 0, none⟩) (a' := ⟨b179, 0, none⟩) fo122_0 (T rfl hA180) rfl) ?_
   refine aw_load 1 (.agg #[.bool nr147, .slice A148 n149 c150]) rfl (by kernel_rfl) .none ⟨H194, H195⟩ (fun _ s => dv_loads (l := [.bool nr147, .slice A148 n149 c150]) agt120 sz120 (T rfl rfl) s.1 rfl) ?_
   refine aw_pure 2 (.pointer (some ⟨b183, 4, none⟩)) rfl (by kernel_rfl) .none ⟨H194, H195⟩ (fun _ => dv_fieldAddr (a := ⟨b183, 0, none⟩) (a' := ⟨b183, 4, none⟩) fo122_2 (T rfl hA184) rfl) ?_
   refine aw_load 3 (.agg #[.bool nr171, .slice A172 n173 c174]) rfl (by kernel_rfl) .none ⟨H194, H195⟩ (fun _ s => dv_loads (l := [.bool nr171, .slice A172 n173 c174]) agt120 sz120 (T rfl rfl) s.2 rfl) ?_
   refine aw_pure 5 (.pointer (some ⟨b183, 0, none⟩)) rfl (by kernel_rfl) .none ⟨H194, H195⟩ (fun _ => dv_fieldAddr (a := ⟨b183, 0, none⟩) (a' := ⟨b183, 0, none⟩) fo122_0 (T rfl hA184) rfl) ?_
   refine aw_load 6 (.agg #[.bool nr163, .slice A164 n165 c166]) rfl (by kernel_rfl) .none ⟨H194, H195⟩ (fun _ s => dv_loads (l := [.bool nr163, .slice A164 n165 c166]) agt120 sz120 (T rfl rfl) s.2 rfl) ?_
   refine aw_pure 7 (.pointer (some ⟨b179, 4, none⟩)) rfl (by kernel_rfl) .none ⟨H194, H195⟩ (fun _ => dv_fieldAddr (a := ⟨b179, 0, none⟩) (a' := ⟨b179, 4, none⟩) fo122_2 (T rfl hA180) rfl) ?_
   refine aw_load 8 (.agg #[.bool nr155, .slice A156 n157 c158]) rfl (by kernel_rfl) .none ⟨H194, H195⟩ (fun _ s => dv_loads (l := [.bool nr155, .slice A156 n157 c158]) agt120 sz120 (T rfl rfl) s.1 rfl) ?_
   have h196 := (hp160.ext d192.ext)
   have h197 := (hp178.ext d192.ext)
   refine aw_one 4 rfl (by kernel_rfl) .none (oe_callf (vs := [.agg #[.bool nr147, .slice A148 n149 c150], .agg #[.bool nr171, .slice A172 n173 c174]]) co93 (ar2 (T rfl rfl) (T rfl rfl)) (nby_ok h196 h197 (by first | decide | omega) (by first | decide | omega)) ?_)
   rintro _ w203 ⟨nr198, A199, n200, c201, rfl, e204, h202⟩
   have E205 := below_ext E193 E193.size e204
   have lh202 := Num.len (by decide) h202
   have H206 := (e204.blk H194)
   have H207 := (e204.blk H195)
   refine ⟨.inr ⟨H206, H207⟩, ?_⟩
   have h208 := ((hp176.ext d192.ext).ext e204)
   have h209 := ((hp162.ext d192.ext).ext e204)
   refine aw_one 9 rfl (by kernel_rfl) .none (oe_callf (vs := [.agg #[.bool nr163, .slice A164 n165 c166], .agg #[.bool nr155, .slice A156 n157 c158]]) co93 (ar2 (T rfl rfl) (T rfl rfl)) (nby_ok h208 h209 (by first | decide | omega) (by first | decide | omega)) ?_)
   rintro _ w215 ⟨nr210, A211, n212, c213, rfl, e216, h214⟩
   have E217 := below_ext E205 E205.size e216
   have lh214 := Num.len (by decide) h214
   have H218 := (e216.blk H206)
   have H219 := (e216.blk H207)
   refine ⟨.inr ⟨H218, H219⟩, ?_⟩
   have h220 := (h202.ext e216)
   refine aw_one 10 rfl (by kernel_rfl) .none (oe_callf (vs := [.agg #[.bool nr198, .slice A199 n200 c201], .agg #[.bool nr210, .slice A211 n212 c213]]) co91 (ar2 (T rfl rfl) (T rfl rfl)) (ncmp_ok h220 h214 (by first | decide | omega) (by first | decide | omega)) ?_)
   rintro _ w221 ⟨rfl, e222⟩
   have E223 := below_ext E217 E217.size e222
   have H224 := (e222.blk H218)
   have H225 := (e222.blk H219)
   refine ⟨.inr ⟨H224, H225⟩, ?_⟩
   refine aw_last 11 (.int .i64 (sgnI ((x * r) - (p * u)))) rfl (by kernel_rfl) .none (fun _ => dv_assign (T rfl rfl)) ?_
   refine aw_done (by kernel_rfl) ?_
   refine rk_seq ?_
   refine rk_reg ?_
   refine lw_v (.int .i64 (sgnI ((x * r) - (p * u)))) (dv_move (T rfl rfl)) ?_
   refine lw_v (.bool (decide ((sgnI ((x * r) - (p * u))) ≠ 0))) (dv_neq (a := sgnI ((x * r) - (p * u))) (b := 0) (T rfl rfl) C) ?_
   refine lw_nil ?_
   by_cases hb226 : (sgnI ((x * r) - (p * u))) ≠ 0
   · refine rk_ct (T rfl (congrArg Value.bool (decide_eq_true hb226))) ?_
     refine rk_seq ?_
     refine rk_reg ?_
     refine lw_v (.int .i64 (sgnI ((x * r) - (p * u)))) (dv_move (T rfl rfl)) ?_
     refine lw_v (.int .i64 (sgnI ((x * r) - (p * u)))) (dv_assign (T rfl rfl)) ?_
     refine lw_nil ?_
     refine rk_ret Try.func117 (v := .int .i64 (sgnI ((x * r) - (p * u)))) (res1 Try.results117 (rv_tmp rfl rfl)) ⟨_, rfl, ?_⟩
     exact ⟨(vi (by exact (by first | (obtain ⟨rfl, rfl, rfl⟩ : x = p ∧ y = q ∧ u = r := ‹_›; exact (pc_self ..).symm) | (unfold pc; first | rw [if_pos (by assumption)] | rw [if_neg (by assumption)])))), E223⟩
   · refine rk_cf (T rfl (congrArg Value.bool (decide_eq_false hb226))) ?_
     refine rk_skip ?_
     refine rk_seq ?_
     refine rk_any (fun w => w.heap[b179]? = some (.cells #[.bool nr147, .slice A148 n149 c150, .bool nr151, .slice A152 n153 c154, .bool nr155, .slice A156 n157 c158] 122) ∧ w.heap[b183]? = some (.cells #[.bool nr163, .slice A164 n165 c166, .bool nr167, .slice A168 n169 c170, .bool nr171, .slice A172 n173 c174] 122)) [11] mo ?_
     intro w227 d228
     have E229 := below_ext E223 E223.size d228.ext
     have H230 := (d228.ext.blk H224)
     have H231 := (d228.ext.blk H225)
     refine aw_pure 0 (.pointer (some ⟨b179, 2, none⟩)) rfl (by kernel_rfl) .none ⟨H230, H231⟩ (fun _ => dv_fieldAddr (a := ⟨b179, 0, none⟩) (a' := ⟨b179, 2, none⟩) fo122_1 (T rfl hA180) rfl) ?_
     refine aw_load 1 (.agg #[.bool nr151, .slice A152 n153 c154]) rfl (by kernel_rfl) .none ⟨H230, H231⟩ (fun _ s => dv_loads (l := [.bool nr151, .slice A152 n153 c154]) agt120 sz120 (T rfl rfl) s.1 rfl) ?_
     refine aw_pure 2 (.pointer (some ⟨b183, 4, none⟩)) rfl (by kernel_rfl) .none ⟨H230, H231⟩ (fun _ => dv_fieldAddr (a := ⟨b183, 0, none⟩) (a' := ⟨b183, 4, none⟩) fo122_2 (T rfl hA184) rfl) ?_
     refine aw_load 3 (.agg #[.bool nr171, .slice A172 n173 c174]) rfl (by kernel_rfl) .none ⟨H230, H231⟩ (fun _ s => dv_loads (l := [.bool nr171, .slice A172 n173 c174]) agt120 sz120 (T rfl rfl) s.2 rfl) ?_
     refine aw_pure 5 (.pointer (some ⟨b183, 2, none⟩)) rfl (by kernel_rfl) .none ⟨H230, H231⟩ (fun _ => dv_fieldAddr (a := ⟨b183, 0, none⟩) (a' := ⟨b183, 2, none⟩) fo122_1 (T rfl hA184) rfl) ?_
     refine aw_load 6 (.agg #[.bool nr167, .slice A168 n169 c170]) rfl (by kernel_rfl) .none ⟨H230, H231⟩ (fun _ s => dv_loads (l := [.bool nr167, .slice A168 n169 c170]) agt120 sz120 (T rfl rfl) s.2 rfl) ?_
     refine aw_pure 7 (.pointer (some ⟨b179, 4, none⟩)) rfl (by kernel_rfl) .none ⟨H230, H231⟩ (fun _ => dv_fieldAddr (a := ⟨b179, 0, none⟩) (a' := ⟨b179, 4, none⟩) fo122_2 (T rfl hA180) rfl) ?_
     refine aw_load 8 (.agg #[.bool nr155, .slice A156 n157 c158]) rfl (by kernel_rfl) .none ⟨H230, H231⟩ (fun _ s => dv_loads (l := [.bool nr155, .slice A156 n157 c158]) agt120 sz120 (T rfl rfl) s.1 rfl) ?_
     have h232 := (((((hp161.ext d192.ext).ext e204).ext e216).ext e222).ext d228.ext)
     have h233 := ((((h197.ext e204).ext e216).ext e222).ext d228.ext)
     refine aw_one 4 rfl (by kernel_rfl) .none (oe_callf (vs := [.agg #[.bool nr151, .slice A152 n153 c154], .agg #[.bool nr171, .slice A172 n173 c174]]) co93 (ar2 (T rfl rfl) (T rfl rfl)) (nby_ok h232 h233 (by first | decide | omega) (by first | decide | omega)) ?_)
     rintro _ w239 ⟨nr234, A235, n236, c237, rfl, e240, h238⟩
     have E241 := below_ext E229 E229.size e240
     have lh238 := Num.len (by decide) h238
     have H242 := (e240.blk H230)
     have H243 := (e240.blk H231)
     refine ⟨.inr ⟨H242, H243⟩, ?_⟩
     have h244 := ((((((hp177.ext d192.ext).ext e204).ext e216).ext e222).ext d228.ext).ext e240)
     have h245 := ((((h209.ext e216).ext e222).ext d228.ext).ext e240)
     refine aw_one 9 rfl (by kernel_rfl) .none (oe_callf (vs := [.agg #[.bool nr167, .slice A168 n169 c170], .agg #[.bool nr155, .slice A156 n157 c158]]) co93 (ar2 (T rfl rfl) (T rfl rfl)) (nby_ok h244 h245 (by first | decide | omega) (by first | decide | omega)) ?_)
     rintro _ w251 ⟨nr246, A247, n248, c249, rfl, e252, h250⟩
     have E253 := below_ext E241 E241.size e252
     have lh250 := Num.len (by decide) h250
     have H254 := (e252.blk H242)
     have H255 := (e252.blk H243)
     refine ⟨.inr ⟨H254, H255⟩, ?_⟩
     have h256 := (h238.ext e252)
     refine aw_one 10 rfl (by kernel_rfl) .none (oe_callf (vs := [.agg #[.bool nr234, .slice A235 n236 c237], .agg #[.bool nr246, .slice A247 n248 c249]]) co91 (ar2 (T rfl rfl) (T rfl rfl)) (ncmp_ok h256 h250 (by first | decide | omega) (by first | decide | omega)) ?_)
     rintro _ w257 ⟨rfl, e258⟩
     have E259 := below_ext E253 E253.size e258
     have H260 := (e258.blk H254)
     have H261 := (e258.blk H255)
     refine ⟨.inr ⟨H260, H261⟩, ?_⟩
     refine aw_last 11 (.int .i64 (sgnI ((y * r) - (q * u)))) rfl (by kernel_rfl) .none (fun _ => dv_assign (T rfl rfl)) ?_
     refine aw_done (by kernel_rfl) ?_
     refine rk_ret Try.func117 (v := .int .i64 (sgnI ((y * r) - (q * u)))) (res1 Try.results117 (rv_tmp rfl rfl)) ⟨_, rfl, ?_⟩
     exact ⟨(vi (by exact (by first | (obtain ⟨rfl, rfl, rfl⟩ : x = p ∧ y = q ∧ u = r := ‹_›; exact (pc_self ..).symm) | (unfold pc; first | rw [if_pos (by assumption)] | rw [if_neg (by assumption)])))), E259⟩
set_option maxHeartbeats 1000000 in
theorem l3Orient_ok {w : World}  {na : Bool} {Aa : Option Addr} {la ca : Nat} {x : Int} {sx : Nat} (ha : Num 32 183 .u32 w na Aa la ca x sx) {nb : Bool} {Ab : Option Addr} {lb cb : Nat} {y : Int} {sy : Nat} (hb : Num 32 183 .u32 w nb Ab lb cb y sy) {nm : Bool} {Am : Option Addr} {lm cm : Nat} {u : Int} {su : Nat} (hm : Num 32 183 .u32 w nm Am lm cm u su) {ne : Bool} {Ae : Option Addr} {le ce : Nat} {p : Int} {sp : Nat} (he : Num 32 183 .u32 w ne Ae le ce p sp) {nf : Bool} {Af : Option Addr} {lf cf : Nat} {q : Int} {sq : Nat} (hf : Num 32 183 .u32 w nf Af lf cf q sq) {ng : Bool} {Ag : Option Addr} {lg cg : Nat} {r : Int} {sr : Nat} (hg : Num 32 183 .u32 w ng Ag lg cg r sr) {ni : Bool} {Ai : Option Addr} {li ci : Nat} {xt : Int} {sd : Nat} (hi : Num 32 183 .u32 w ni Ai li ci xt sd) {nj : Bool} {Aj : Option Addr} {lj cj : Nat} {yt : Int} {se : Nat} (hj : Num 32 183 .u32 w nj Aj lj cj yt se) {nk : Bool} {Ak : Option Addr} {lk ck : Nat} {ut : Int} {st : Nat} (hk : Num 32 183 .u32 w nk Ak lk ck ut st) (hbsx : sx ≤ 10000) (hbsy : sy ≤ 10000) (hbsu : su ≤ 10000) (hbsp : sp ≤ 10000) (hbsq : sq ≤ 10000) (hbsr : sr ≤ 10000) (hbsd : sd ≤ 10000) (hbse : se ≤ 10000) (hbst : st ≤ 10000)  : Ct Try.prog 73 [.agg #[.bool na, .slice Aa la ca, .bool nb, .slice Ab lb cb, .bool nm, .slice Am lm cm], .agg #[.bool ne, .slice Ae le ce, .bool nf, .slice Af lf cf, .bool ng, .slice Ag lg cg], .agg #[.bool ni, .slice Ai li ci, .bool nj, .slice Aj lj cj, .bool nk, .slice Ak lk ck]] w fun v w1 => v = .int .i64 (ori x y u p q r xt yt ut) ∧ Ext w w1 := by
 refine ct_run (n := 58) Try.func73 rfl Try.ntmps73 rfl ?_
 have E0 : Below w.heap.size w w := Below.refl _ _
 have lha := Num.len (by decide) ha
 have lhb := Num.len (by decide) hb
 have lhm := Num.len (by decide) hm
 have lhe := Num.len (by decide) he
 have lhf := Num.len (by decide) hf
 have lhg := Num.len (by decide) hg
 have lhi := Num.len (by decide) hi
 have lhj := Num.len (by decide) hj
 have lhk := Num.len (by decide) hk
 refine rk_seq ?_
 refine rk_reg ?_
 refine lw_e (oe_box (v := .agg #[.bool na, .slice Aa la ca, .bool nb, .slice Ab lb cb, .bool nm, .slice Am lm cm]) (cs := #[.bool na, .slice Aa la ca, .bool nb, .slice Ab lb cb, .bool nm, .slice Am lm cm]) (T rfl rfl) rfl ?_)
 intro b1 w2 n3
 have N4 : w.heap.size ≤ b1 := n3.eq ▸ E0.size
 have E5 := below_ext E0 E0.size n3.ext
 refine lw_e (oe_box (v := .agg #[.bool ne, .slice Ae le ce, .bool nf, .slice Af lf cf, .bool ng, .slice Ag lg cg]) (cs := #[.bool ne, .slice Ae le ce, .bool nf, .slice Af lf cf, .bool ng, .slice Ag lg cg]) (T rfl rfl) rfl ?_)
 intro b6 w7 n8
 have N9 : w.heap.size ≤ b6 := n8.eq ▸ E5.size
 have : b1 < b6 := n8.eq ▸ lt_of_blk n3.blk
 have E10 := below_ext E5 E5.size n8.ext
 refine lw_e (oe_box (v := .agg #[.bool ni, .slice Ai li ci, .bool nj, .slice Aj lj cj, .bool nk, .slice Ak lk ck]) (cs := #[.bool ni, .slice Ai li ci, .bool nj, .slice Aj lj cj, .bool nk, .slice Ak lk ck]) (T rfl rfl) rfl ?_)
 intro b11 w12 n13
 have N14 : w.heap.size ≤ b11 := n13.eq ▸ E10.size
 have : b6 < b11 := n13.eq ▸ lt_of_blk n8.blk
 have E15 := below_ext E10 E10.size n13.ext
 refine lw_v (.int .i64 0) (dv_assign C) ?_
 refine lw_nil ?_
 refine rk_seq ?_
 have H16 := (n13.ext.blk (n8.ext.blk n3.blk))
 have : b1 < w12.heap.size := lt_of_blk H16
 have H17 := (n13.ext.blk n8.blk)
 have : b6 < w12.heap.size := lt_of_blk H17
 have : b11 < w12.heap.size := lt_of_blk n13.blk
 have : w.heap.size ≤ w12.heap.size := E15.size
 refine rk_par2 [fun vq wq_ => vq = .pointer (some ⟨b1, 0, none⟩), fun vq wq_ => vq = .agg #[.bool na, .slice Aa la ca], fun vq wq_ => vq = .pointer (some ⟨b6, 2, none⟩), fun vq wq_ => vq = .agg #[.bool nf, .slice Af lf cf], fun vq wq_ => vq = .pointer (some ⟨b11, 4, none⟩), fun vq wq_ => vq = .agg #[.bool nk, .slice Ak lk ck], fun vq wq_ => ∃ (nr70 : Bool) (A71 : Option Addr) (n72 : Nat) (c73 : Nat), vq = .agg #[.bool nr70, .slice A71 n72 c73] ∧ Num 32 183 .u32 wq_ nr70 A71 n72 c73 (q * ut) ((sq + st)), fun vq wq_ => vq = .pointer (some ⟨b6, 4, none⟩), fun vq wq_ => vq = .agg #[.bool ng, .slice Ag lg cg], fun vq wq_ => vq = .pointer (some ⟨b11, 2, none⟩), fun vq wq_ => vq = .agg #[.bool nj, .slice Aj lj cj], fun vq wq_ => ∃ (nr116 : Bool) (A117 : Option Addr) (n118 : Nat) (c119 : Nat), vq = .agg #[.bool nr116, .slice A117 n118 c119] ∧ Num 32 183 .u32 wq_ nr116 A117 n118 c119 (r * yt) ((sr + se)), fun vq wq_ => ∃ (nr142 : Bool) (A143 : Option Addr) (n144 : Nat) (c145 : Nat), vq = .agg #[.bool nr142, .slice A143 n144 c145] ∧ Num 32 183 .u32 wq_ nr142 A143 n144 c145 ((q * ut) - (r * yt)) ((max (sq + st) (sr + se) + 1)), fun vq wq_ => ∃ (nr164 : Bool) (A165 : Option Addr) (n166 : Nat) (c167 : Nat), vq = .agg #[.bool nr164, .slice A165 n166 c167] ∧ Num 32 183 .u32 wq_ nr164 A165 n166 c167 (x * ((q * ut) - (r * yt))) ((sx + (max (sq + st) (sr + se) + 1))), fun _ _ => True, fun _ _ => True] [⟨14, 15, 13, 100, #[.bool false, .slice none 0 0]⟩] [100] mo (by kernel_rfl) (by kernel_rfl) ?_ ?_ ?_ ?_ ?_
 · intro e he e2 he2 h; simp only [List.mem_cons, List.not_mem_nil, or_false] at he he2; rcases he with rfl <;> rcases he2 with rfl <;> first | rfl | exact absurd h (by decide)
 · exact ⟨⟨fun v w w2 e h => h, fun v w w2 b cs T fz s hb hT h => h⟩, ⟨fun v w w2 e h => h, fun v w w2 b cs T fz s hb hT h => h⟩, ⟨fun v w w2 e h => h, fun v w w2 b cs T fz s hb hT h => h⟩, ⟨fun v w w2 e h => h, fun v w w2 b cs T fz s hb hT h => h⟩, ⟨fun v w w2 e h => h, fun v w w2 b cs T fz s hb hT h => h⟩, ⟨fun v w w2 e h => h, fun v w w2 b cs T fz s hb hT h => h⟩, ⟨fun v w w2 e ⟨nr70, A71, n72, c73, hv, h0_⟩ => ⟨nr70, A71, n72, c73, hv, h0_.ext e⟩, fun v w w2 b cs T fz s hb hT ⟨nr70, A71, n72, c73, hv, h0_⟩ => ⟨nr70, A71, n72, c73, hv, h0_.st s hb (ts_ne hT (by decide))⟩⟩, ⟨fun v w w2 e h => h, fun v w w2 b cs T fz s hb hT h => h⟩, ⟨fun v w w2 e h => h, fun v w w2 b cs T fz s hb hT h => h⟩, ⟨fun v w w2 e h => h, fun v w w2 b cs T fz s hb hT h => h⟩, ⟨fun v w w2 e h => h, fun v w w2 b cs T fz s hb hT h => h⟩, ⟨fun v w w2 e ⟨nr116, A117, n118, c119, hv, h0_⟩ => ⟨nr116, A117, n118, c119, hv, h0_.ext e⟩, fun v w w2 b cs T fz s hb hT ⟨nr116, A117, n118, c119, hv, h0_⟩ => ⟨nr116, A117, n118, c119, hv, h0_.st s hb (ts_ne hT (by decide))⟩⟩, ⟨fun v w w2 e ⟨nr142, A143, n144, c145, hv, h0_⟩ => ⟨nr142, A143, n144, c145, hv, h0_.ext e⟩, fun v w w2 b cs T fz s hb hT ⟨nr142, A143, n144, c145, hv, h0_⟩ => ⟨nr142, A143, n144, c145, hv, h0_.st s hb (ts_ne hT (by decide))⟩⟩, ⟨fun v w w2 e ⟨nr164, A165, n166, c167, hv, h0_⟩ => ⟨nr164, A165, n166, c167, hv, h0_.ext e⟩, fun v w w2 b cs T fz s hb hT ⟨nr164, A165, n166, c167, hv, h0_⟩ => ⟨nr164, A165, n166, c167, hv, h0_.st s hb (ts_ne hT (by decide))⟩⟩, ⟨fun v w w2 e h => h, fun v w w2 b cs T fz s hb hT h => h⟩, ⟨fun v w w2 e h => h, fun v w w2 b cs T fz s hb hT h => h⟩, trivial⟩
 · refine ⟨?_, ?_, ?_, ?_, ?_, ?_, ?_, ?_, ?_, ?_, ?_, ?_, ?_, ?_, ?_, ?_, trivial⟩
   · refine .inr ⟨by kernel_rfl, ?_⟩
     intro fr19 w18 e20 hF21 hD22
     have E23 := below_ext E15 E15.size e20
     exact DV.oe (dv_fieldAddr (a := ⟨b1, 0, none⟩) (a' := ⟨b1, 0, none⟩) fo102_0 (T rfl (hF21 3 (by kernel_rfl))) rfl) ⟨Below.refl _ _, rfl⟩
   · refine .inr ⟨by kernel_rfl, ?_⟩
     intro fr25 w24 e26 hF27 hD28
     have E29 := below_ext E15 E15.size e26
     have hv30 : fr25 10 = .pointer (some ⟨b1, 0, none⟩) := hD28 0 _ (by kernel_rfl) rfl (by kernel_rfl)
     have H31 := (e26.blk H16)
     exact DV.oe (dv_loads (l := [.bool na, .slice Aa la ca]) agt100 sz100 (T rfl hv30) H31 rfl) ⟨Below.refl _ _, rfl⟩
   · refine .inr ⟨by kernel_rfl, ?_⟩
     intro fr33 w32 e34 hF35 hD36
     have E37 := below_ext E15 E15.size e34
     exact DV.oe (dv_fieldAddr (a := ⟨b6, 0, none⟩) (a' := ⟨b6, 2, none⟩) fo102_1 (T rfl (hF35 4 (by kernel_rfl))) rfl) ⟨Below.refl _ _, rfl⟩
   · refine .inr ⟨by kernel_rfl, ?_⟩
     intro fr39 w38 e40 hF41 hD42
     have E43 := below_ext E15 E15.size e40
     have hv44 : fr39 12 = .pointer (some ⟨b6, 2, none⟩) := hD42 2 _ (by kernel_rfl) rfl (by kernel_rfl)
     have H45 := (e40.blk H17)
     exact DV.oe (dv_loads (l := [.bool nf, .slice Af lf cf]) agt100 sz100 (T rfl hv44) H45 rfl) ⟨Below.refl _ _, rfl⟩
   · refine .inr ⟨by kernel_rfl, ?_⟩
     intro fr47 w46 e48 hF49 hD50
     have E51 := below_ext E15 E15.size e48
     exact DV.oe (dv_fieldAddr (a := ⟨b11, 0, none⟩) (a' := ⟨b11, 4, none⟩) fo102_2 (T rfl (hF49 5 (by kernel_rfl))) rfl) ⟨Below.refl _ _, rfl⟩
   · refine .inr ⟨by kernel_rfl, ?_⟩
     intro fr53 w52 e54 hF55 hD56
     have E57 := below_ext E15 E15.size e54
     have hv58 : fr53 14 = .pointer (some ⟨b11, 4, none⟩) := hD56 4 _ (by kernel_rfl) rfl (by kernel_rfl)
     have H59 := (e54.blk n13.blk)
     exact DV.oe (dv_loads (l := [.bool nk, .slice Ak lk ck]) agt100 sz100 (T rfl hv58) H59 rfl) ⟨Below.refl _ _, rfl⟩
   · refine .inr ⟨by kernel_rfl, ?_⟩
     intro fr61 w60 e62 hF63 hD64
     have E65 := below_ext E15 E15.size e62
     have hv66 : fr61 13 = .agg #[.bool nf, .slice Af lf cf] := hD64 3 _ (by kernel_rfl) rfl (by kernel_rfl)
     have hv67 : fr61 15 = .agg #[.bool nk, .slice Ak lk ck] := hD64 5 _ (by kernel_rfl) rfl (by kernel_rfl)
     have h68 := ((((hf.ext n3.ext).ext n8.ext).ext n13.ext).ext e62)
     have h69 := ((((hk.ext n3.ext).ext n8.ext).ext n13.ext).ext e62)
     refine id (oe_callf (vs := [.agg #[.bool nf, .slice Af lf cf], .agg #[.bool nk, .slice Ak lk ck]]) co99 (ar2 (T rfl hv66) (T rfl hv67)) (l1Mul_ok h68 h69 (by first | decide | omega) (by first | decide | omega)) ?_)
     rintro _ w75 ⟨nr70, A71, n72, c73, rfl, e76, h74⟩
     have E77 := below_ext E65 E65.size e76
     have lh74 := Num.len (by decide) h74
     exact ⟨e76, nr70, A71, n72, c73, rfl, h74⟩
   · refine .inr ⟨by kernel_rfl, ?_⟩
     intro fr79 w78 e80 hF81 hD82
     have E83 := below_ext E15 E15.size e80
     exact DV.oe (dv_fieldAddr (a := ⟨b6, 0, none⟩) (a' := ⟨b6, 4, none⟩) fo102_2 (T rfl (hF81 4 (by kernel_rfl))) rfl) ⟨Below.refl _ _, rfl⟩
   · refine .inr ⟨by kernel_rfl, ?_⟩
     intro fr85 w84 e86 hF87 hD88
     have E89 := below_ext E15 E15.size e86
     have hv90 : fr85 17 = .pointer (some ⟨b6, 4, none⟩) := hD88 7 _ (by kernel_rfl) rfl (by kernel_rfl)
     have H91 := (e86.blk H17)
     exact DV.oe (dv_loads (l := [.bool ng, .slice Ag lg cg]) agt100 sz100 (T rfl hv90) H91 rfl) ⟨Below.refl _ _, rfl⟩
   · refine .inr ⟨by kernel_rfl, ?_⟩
     intro fr93 w92 e94 hF95 hD96
     have E97 := below_ext E15 E15.size e94
     exact DV.oe (dv_fieldAddr (a := ⟨b11, 0, none⟩) (a' := ⟨b11, 2, none⟩) fo102_1 (T rfl (hF95 5 (by kernel_rfl))) rfl) ⟨Below.refl _ _, rfl⟩
   · refine .inr ⟨by kernel_rfl, ?_⟩
     intro fr99 w98 e100 hF101 hD102
     have E103 := below_ext E15 E15.size e100
     have hv104 : fr99 19 = .pointer (some ⟨b11, 2, none⟩) := hD102 9 _ (by kernel_rfl) rfl (by kernel_rfl)
     have H105 := (e100.blk n13.blk)
     exact DV.oe (dv_loads (l := [.bool nj, .slice Aj lj cj]) agt100 sz100 (T rfl hv104) H105 rfl) ⟨Below.refl _ _, rfl⟩
   · refine .inr ⟨by kernel_rfl, ?_⟩
     intro fr107 w106 e108 hF109 hD110
     have E111 := below_ext E15 E15.size e108
     have hv112 : fr107 18 = .agg #[.bool ng, .slice Ag lg cg] := hD110 8 _ (by kernel_rfl) rfl (by kernel_rfl)
     have hv113 : fr107 20 = .agg #[.bool nj, .slice Aj lj cj] := hD110 10 _ (by kernel_rfl) rfl (by kernel_rfl)
     have h114 := ((((hg.ext n3.ext).ext n8.ext).ext n13.ext).ext e108)
     have h115 := ((((hj.ext n3.ext).ext n8.ext).ext n13.ext).ext e108)
     refine id (oe_callf (vs := [.agg #[.bool ng, .slice Ag lg cg], .agg #[.bool nj, .slice Aj lj cj]]) co99 (ar2 (T rfl hv112) (T rfl hv113)) (l1Mul_ok h114 h115 (by first | decide | omega) (by first | decide | omega)) ?_)
     rintro _ w121 ⟨nr116, A117, n118, c119, rfl, e122, h120⟩
     have E123 := below_ext E111 E111.size e122
     have lh120 := Num.len (by decide) h120
     exact ⟨e122, nr116, A117, n118, c119, rfl, h120⟩
   · refine .inr ⟨by kernel_rfl, ?_⟩
     intro fr125 w124 e126 hF127 hD128
     have E129 := below_ext E15 E15.size e126
     obtain ⟨nr130, A131, n132, c133, hv134, hp135⟩ : ∃ (nr70 : Bool) (A71 : Option Addr) (n72 : Nat) (c73 : Nat), fr125 16 = .agg #[.bool nr70, .slice A71 n72 c73] ∧ Num 32 183 .u32 w124 nr70 A71 n72 c73 (q * ut) ((sq + st)) := hD128 6 _ (by kernel_rfl) rfl (by kernel_rfl)
     have lhp135 := Num.len (by decide) hp135
     obtain ⟨nr136, A137, n138, c139, hv140, hp141⟩ : ∃ (nr116 : Bool) (A117 : Option Addr) (n118 : Nat) (c119 : Nat), fr125 21 = .agg #[.bool nr116, .slice A117 n118 c119] ∧ Num 32 183 .u32 w124 nr116 A117 n118 c119 (r * yt) ((sr + se)) := hD128 11 _ (by kernel_rfl) rfl (by kernel_rfl)
     have lhp141 := Num.len (by decide) hp141
     refine id (oe_callf (vs := [.agg #[.bool nr130, .slice A131 n132 c133], .agg #[.bool nr136, .slice A137 n138 c139]]) co104 (ar2 (T rfl hv134) (T rfl hv140)) (l1Sub_ok hp135 hp141 (by first | decide | omega) (by first | decide | omega)) ?_)
     rintro _ w147 ⟨nr142, A143, n144, c145, rfl, e148, h146⟩
     have E149 := below_ext E129 E129.size e148
     have lh146 := Num.len (by decide) h146
     exact ⟨e148, nr142, A143, n144, c145, rfl, h146⟩
   · refine .inr ⟨by kernel_rfl, ?_⟩
     intro fr151 w150 e152 hF153 hD154
     have E155 := below_ext E15 E15.size e152
     have hv156 : fr151 11 = .agg #[.bool na, .slice Aa la ca] := hD154 1 _ (by kernel_rfl) rfl (by kernel_rfl)
     obtain ⟨nr157, A158, n159, c160, hv161, hp162⟩ : ∃ (nr142 : Bool) (A143 : Option Addr) (n144 : Nat) (c145 : Nat), fr151 22 = .agg #[.bool nr142, .slice A143 n144 c145] ∧ Num 32 183 .u32 w150 nr142 A143 n144 c145 ((q * ut) - (r * yt)) ((max (sq + st) (sr + se) + 1)) := hD154 12 _ (by kernel_rfl) rfl (by kernel_rfl)
     have lhp162 := Num.len (by decide) hp162
     have h163 := ((((ha.ext n3.ext).ext n8.ext).ext n13.ext).ext e152)
     refine id (oe_callf (vs := [.agg #[.bool na, .slice Aa la ca], .agg #[.bool nr157, .slice A158 n159 c160]]) co99 (ar2 (T rfl hv156) (T rfl hv161)) (l1Mul_ok h163 hp162 (by first | decide | omega) (by first | decide | omega)) ?_)
     rintro _ w169 ⟨nr164, A165, n166, c167, rfl, e170, h168⟩
     have E171 := below_ext E155 E155.size e170
     have lh168 := Num.len (by decide) h168
     exact ⟨e170, nr164, A165, n166, c167, rfl, h168⟩
   · exact .inl (.inr ⟨by kernel_rfl, fun _ _ => trivial⟩)
   · exact .inl (.inl (by kernel_rfl))
 · refine ⟨⟨⟨_, rfl, fun _ _ => oe_alloc ze100 fun b w hn => ⟨b, rfl, hn⟩⟩, ⟨_, rfl, ?_⟩⟩, trivial⟩
   · intro fr173 w172 b177 e174 hF175 hD176 hA178 hB179
     have E180 := below_ext E15 E15.size e174
     obtain ⟨nr181, A182, n183, c184, hv185, hp186⟩ : ∃ (nr164 : Bool) (A165 : Option Addr) (n166 : Nat) (c167 : Nat), fr173 23 = .agg #[.bool nr164, .slice A165 n166 c167] ∧ Num 32 183 .u32 w172 nr164 A165 n166 c167 (x * ((q * ut) - (r * yt))) ((sx + (max (sq + st) (sr + se) + 1))) := hD176 13 _ (by kernel_rfl) rfl (by kernel_rfl)
     have lhp186 := Num.len (by decide) hp186
     refine id (oe_store (v := .agg #[.bool nr181, .slice A182 n183 c184]) (vs := [.bool nr181, .slice A182 n183 c184]) (l := [.bool nr181, .slice A182 n183 c184]) (T rfl hA178) (T rfl hv185) sz100 rfl rfl rfl hB179 rfl ?_)
     intro w187 s188 H189
     exact ⟨s188, H189.trans (congrArg (fun v : Value => some (Obj.cells v.cells 100)) (show fr173 23 = _ from hv185).symm)⟩
 intro fr192 w191 e193 hF194 hP195 hM196 hN197
 have E198 := below_ext E15 E15.size e193
 obtain ⟨_, _, _, _, _, _, _, _, _, _, _, _, _, p199, _, _, _⟩ := hP195
 obtain ⟨nr200, A201, n202, c203, hv204, hp205⟩ : ∃ (nr164 : Bool) (A165 : Option Addr) (n166 : Nat) (c167 : Nat), fr192 23 = .agg #[.bool nr164, .slice A165 n166 c167] ∧ Num 32 183 .u32 w191 nr164 A165 n166 c167 (x * ((q * ut) - (r * yt))) ((sx + (max (sq + st) (sr + se) + 1))) := p199.resolve_left (nst (by kernel_rfl))
 have lhp205 := Num.len (by decide) hp205
 obtain ⟨⟨b206, hA207, hB208, hC209⟩, _⟩ := hM196
 have H210 : w191.heap[b206]? = some (.cells #[.bool nr200, .slice A201 n202 c203] 100) := hC209.trans (congrArg (fun v : Value => some (Obj.cells v.cells 100)) hv204)
 have N211 : w.heap.size ≤ b206 := by omega
 refine rk_seq ?_
 have H212 := (e193.blk H16)
 have : b1 < w191.heap.size := lt_of_blk H212
 have H213 := (e193.blk H17)
 have : b6 < w191.heap.size := lt_of_blk H213
 have H214 := (e193.blk n13.blk)
 have : b11 < w191.heap.size := lt_of_blk H214
 have : b206 < w191.heap.size := lt_of_blk H210
 have : w.heap.size ≤ w191.heap.size := E198.size
 refine rk_par2 [fun vq wq_ => vq = .pointer (some ⟨b1, 2, none⟩), fun vq wq_ => vq = .agg #[.bool nb, .slice Ab lb cb], fun vq wq_ => vq = .pointer (some ⟨b6, 0, none⟩), fun vq wq_ => vq = .agg #[.bool ne, .slice Ae le ce], fun vq wq_ => vq = .pointer (some ⟨b11, 4, none⟩), fun vq wq_ => vq = .agg #[.bool nk, .slice Ak lk ck], fun vq wq_ => ∃ (nr267 : Bool) (A268 : Option Addr) (n269 : Nat) (c270 : Nat), vq = .agg #[.bool nr267, .slice A268 n269 c270] ∧ Num 32 183 .u32 wq_ nr267 A268 n269 c270 (p * ut) ((sp + st)), fun vq wq_ => vq = .pointer (some ⟨b6, 4, none⟩), fun vq wq_ => vq = .agg #[.bool ng, .slice Ag lg cg], fun vq wq_ => vq = .pointer (some ⟨b11, 0, none⟩), fun vq wq_ => vq = .agg #[.bool ni, .slice Ai li ci], fun vq wq_ => ∃ (nr313 : Bool) (A314 : Option Addr) (n315 : Nat) (c316 : Nat), vq = .agg #[.bool nr313, .slice A314 n315 c316] ∧ Num 32 183 .u32 wq_ nr313 A314 n315 c316 (r * xt) ((sr + sd)), fun vq wq_ => ∃ (nr339 : Bool) (A340 : Option Addr) (n341 : Nat) (c342 : Nat), vq = .agg #[.bool nr339, .slice A340 n341 c342] ∧ Num 32 183 .u32 wq_ nr339 A340 n341 c342 ((p * ut) - (r * xt)) ((max (sp + st) (sr + sd) + 1)), fun vq wq_ => ∃ (nr361 : Bool) (A362 : Option Addr) (n363 : Nat) (c364 : Nat), vq = .agg #[.bool nr361, .slice A362 n363 c364] ∧ Num 32 183 .u32 wq_ nr361 A362 n363 c364 (y * ((p * ut) - (r * xt))) ((sy + (max (sp + st) (sr + sd) + 1))), fun _ _ => True, fun _ _ => True] [⟨14, 15, 13, 100, #[.bool false, .slice none 0 0]⟩] [100] mo (by kernel_rfl) (by kernel_rfl) ?_ ?_ ?_ ?_ ?_
 · intro e he e2 he2 h; simp only [List.mem_cons, List.not_mem_nil, or_false] at he he2; rcases he with rfl <;> rcases he2 with rfl <;> first | rfl | exact absurd h (by decide)
 · exact ⟨⟨fun v w w2 e h => h, fun v w w2 b cs T fz s hb hT h => h⟩, ⟨fun v w w2 e h => h, fun v w w2 b cs T fz s hb hT h => h⟩, ⟨fun v w w2 e h => h, fun v w w2 b cs T fz s hb hT h => h⟩, ⟨fun v w w2 e h => h, fun v w w2 b cs T fz s hb hT h => h⟩, ⟨fun v w w2 e h => h, fun v w w2 b cs T fz s hb hT h => h⟩, ⟨fun v w w2 e h => h, fun v w w2 b cs T fz s hb hT h => h⟩, ⟨fun v w w2 e ⟨nr267, A268, n269, c270, hv, h0_⟩ => ⟨nr267, A268, n269, c270, hv, h0_.ext e⟩, fun v w w2 b cs T fz s hb hT ⟨nr267, A268, n269, c270, hv, h0_⟩ => ⟨nr267, A268, n269, c270, hv, h0_.st s hb (ts_ne hT (by decide))⟩⟩, ⟨fun v w w2 e h => h, fun v w w2 b cs T fz s hb hT h => h⟩, ⟨fun v w w2 e h => h, fun v w w2 b cs T fz s hb hT h => h⟩, ⟨fun v w w2 e h => h, fun v w w2 b cs T fz s hb hT h => h⟩, ⟨fun v w w2 e h => h, fun v w w2 b cs T fz s hb hT h => h⟩, ⟨fun v w w2 e ⟨nr313, A314, n315, c316, hv, h0_⟩ => ⟨nr313, A314, n315, c316, hv, h0_.ext e⟩, fun v w w2 b cs T fz s hb hT ⟨nr313, A314, n315, c316, hv, h0_⟩ => ⟨nr313, A314, n315, c316, hv, h0_.st s hb (ts_ne hT (by decide))⟩⟩, ⟨fun v w w2 e ⟨nr339, A340, n341, c342, hv, h0_⟩ => ⟨nr339, A340, n341, c342, hv, h0_.ext e⟩, fun v w w2 b cs T fz s hb hT ⟨nr339, A340, n341, c342, hv, h0_⟩ => ⟨nr339, A340, n341, c342, hv, h0_.st s hb (ts_ne hT (by decide))⟩⟩, ⟨fun v w w2 e ⟨nr361, A362, n363, c364, hv, h0_⟩ => ⟨nr361, A362, n363, c364, hv, h0_.ext e⟩, fun v w w2 b cs T fz s hb hT ⟨nr361, A362, n363, c364, hv, h0_⟩ => ⟨nr361, A362, n363, c364, hv, h0_.st s hb (ts_ne hT (by decide))⟩⟩, ⟨fun v w w2 e h => h, fun v w w2 b cs T fz s hb hT h => h⟩, ⟨fun v w w2 e h => h, fun v w w2 b cs T fz s hb hT h => h⟩, trivial⟩
 · refine ⟨?_, ?_, ?_, ?_, ?_, ?_, ?_, ?_, ?_, ?_, ?_, ?_, ?_, ?_, ?_, ?_, trivial⟩
   · refine .inr ⟨by kernel_rfl, ?_⟩
     intro fr216 w215 e217 hF218 hD219
     have E220 := below_ext E198 E198.size e217
     exact DV.oe (dv_fieldAddr (a := ⟨b1, 0, none⟩) (a' := ⟨b1, 2, none⟩) fo102_1 (T rfl ((hF218 3 (by kernel_rfl)).trans (hF194 3 rfl))) rfl) ⟨Below.refl _ _, rfl⟩
   · refine .inr ⟨by kernel_rfl, ?_⟩
     intro fr222 w221 e223 hF224 hD225
     have E226 := below_ext E198 E198.size e223
     have hv227 : fr222 24 = .pointer (some ⟨b1, 2, none⟩) := hD225 0 _ (by kernel_rfl) rfl (by kernel_rfl)
     have H228 := (e223.blk H212)
     exact DV.oe (dv_loads (l := [.bool nb, .slice Ab lb cb]) agt100 sz100 (T rfl hv227) H228 rfl) ⟨Below.refl _ _, rfl⟩
   · refine .inr ⟨by kernel_rfl, ?_⟩
     intro fr230 w229 e231 hF232 hD233
     have E234 := below_ext E198 E198.size e231
     exact DV.oe (dv_fieldAddr (a := ⟨b6, 0, none⟩) (a' := ⟨b6, 0, none⟩) fo102_0 (T rfl ((hF232 4 (by kernel_rfl)).trans (hF194 4 rfl))) rfl) ⟨Below.refl _ _, rfl⟩
   · refine .inr ⟨by kernel_rfl, ?_⟩
     intro fr236 w235 e237 hF238 hD239
     have E240 := below_ext E198 E198.size e237
     have hv241 : fr236 26 = .pointer (some ⟨b6, 0, none⟩) := hD239 2 _ (by kernel_rfl) rfl (by kernel_rfl)
     have H242 := (e237.blk H213)
     exact DV.oe (dv_loads (l := [.bool ne, .slice Ae le ce]) agt100 sz100 (T rfl hv241) H242 rfl) ⟨Below.refl _ _, rfl⟩
   · refine .inr ⟨by kernel_rfl, ?_⟩
     intro fr244 w243 e245 hF246 hD247
     have E248 := below_ext E198 E198.size e245
     exact DV.oe (dv_fieldAddr (a := ⟨b11, 0, none⟩) (a' := ⟨b11, 4, none⟩) fo102_2 (T rfl ((hF246 5 (by kernel_rfl)).trans (hF194 5 rfl))) rfl) ⟨Below.refl _ _, rfl⟩
   · refine .inr ⟨by kernel_rfl, ?_⟩
     intro fr250 w249 e251 hF252 hD253
     have E254 := below_ext E198 E198.size e251
     have hv255 : fr250 28 = .pointer (some ⟨b11, 4, none⟩) := hD253 4 _ (by kernel_rfl) rfl (by kernel_rfl)
     have H256 := (e251.blk H214)
     exact DV.oe (dv_loads (l := [.bool nk, .slice Ak lk ck]) agt100 sz100 (T rfl hv255) H256 rfl) ⟨Below.refl _ _, rfl⟩
   · refine .inr ⟨by kernel_rfl, ?_⟩
     intro fr258 w257 e259 hF260 hD261
     have E262 := below_ext E198 E198.size e259
     have hv263 : fr258 27 = .agg #[.bool ne, .slice Ae le ce] := hD261 3 _ (by kernel_rfl) rfl (by kernel_rfl)
     have hv264 : fr258 29 = .agg #[.bool nk, .slice Ak lk ck] := hD261 5 _ (by kernel_rfl) rfl (by kernel_rfl)
     have h265 := (((((he.ext n3.ext).ext n8.ext).ext n13.ext).ext e193).ext e259)
     have h266 := (((((hk.ext n3.ext).ext n8.ext).ext n13.ext).ext e193).ext e259)
     refine id (oe_callf (vs := [.agg #[.bool ne, .slice Ae le ce], .agg #[.bool nk, .slice Ak lk ck]]) co99 (ar2 (T rfl hv263) (T rfl hv264)) (l1Mul_ok h265 h266 (by first | decide | omega) (by first | decide | omega)) ?_)
     rintro _ w272 ⟨nr267, A268, n269, c270, rfl, e273, h271⟩
     have E274 := below_ext E262 E262.size e273
     have lh271 := Num.len (by decide) h271
     exact ⟨e273, nr267, A268, n269, c270, rfl, h271⟩
   · refine .inr ⟨by kernel_rfl, ?_⟩
     intro fr276 w275 e277 hF278 hD279
     have E280 := below_ext E198 E198.size e277
     exact DV.oe (dv_fieldAddr (a := ⟨b6, 0, none⟩) (a' := ⟨b6, 4, none⟩) fo102_2 (T rfl ((hF278 4 (by kernel_rfl)).trans (hF194 4 rfl))) rfl) ⟨Below.refl _ _, rfl⟩
   · refine .inr ⟨by kernel_rfl, ?_⟩
     intro fr282 w281 e283 hF284 hD285
     have E286 := below_ext E198 E198.size e283
     have hv287 : fr282 31 = .pointer (some ⟨b6, 4, none⟩) := hD285 7 _ (by kernel_rfl) rfl (by kernel_rfl)
     have H288 := (e283.blk H213)
     exact DV.oe (dv_loads (l := [.bool ng, .slice Ag lg cg]) agt100 sz100 (T rfl hv287) H288 rfl) ⟨Below.refl _ _, rfl⟩
   · refine .inr ⟨by kernel_rfl, ?_⟩
     intro fr290 w289 e291 hF292 hD293
     have E294 := below_ext E198 E198.size e291
     exact DV.oe (dv_fieldAddr (a := ⟨b11, 0, none⟩) (a' := ⟨b11, 0, none⟩) fo102_0 (T rfl ((hF292 5 (by kernel_rfl)).trans (hF194 5 rfl))) rfl) ⟨Below.refl _ _, rfl⟩
   · refine .inr ⟨by kernel_rfl, ?_⟩
     intro fr296 w295 e297 hF298 hD299
     have E300 := below_ext E198 E198.size e297
     have hv301 : fr296 33 = .pointer (some ⟨b11, 0, none⟩) := hD299 9 _ (by kernel_rfl) rfl (by kernel_rfl)
     have H302 := (e297.blk H214)
     exact DV.oe (dv_loads (l := [.bool ni, .slice Ai li ci]) agt100 sz100 (T rfl hv301) H302 rfl) ⟨Below.refl _ _, rfl⟩
   · refine .inr ⟨by kernel_rfl, ?_⟩
     intro fr304 w303 e305 hF306 hD307
     have E308 := below_ext E198 E198.size e305
     have hv309 : fr304 32 = .agg #[.bool ng, .slice Ag lg cg] := hD307 8 _ (by kernel_rfl) rfl (by kernel_rfl)
     have hv310 : fr304 34 = .agg #[.bool ni, .slice Ai li ci] := hD307 10 _ (by kernel_rfl) rfl (by kernel_rfl)
     have h311 := (((((hg.ext n3.ext).ext n8.ext).ext n13.ext).ext e193).ext e305)
     have h312 := (((((hi.ext n3.ext).ext n8.ext).ext n13.ext).ext e193).ext e305)
     refine id (oe_callf (vs := [.agg #[.bool ng, .slice Ag lg cg], .agg #[.bool ni, .slice Ai li ci]]) co99 (ar2 (T rfl hv309) (T rfl hv310)) (l1Mul_ok h311 h312 (by first | decide | omega) (by first | decide | omega)) ?_)
     rintro _ w318 ⟨nr313, A314, n315, c316, rfl, e319, h317⟩
     have E320 := below_ext E308 E308.size e319
     have lh317 := Num.len (by decide) h317
     exact ⟨e319, nr313, A314, n315, c316, rfl, h317⟩
   · refine .inr ⟨by kernel_rfl, ?_⟩
     intro fr322 w321 e323 hF324 hD325
     have E326 := below_ext E198 E198.size e323
     obtain ⟨nr327, A328, n329, c330, hv331, hp332⟩ : ∃ (nr267 : Bool) (A268 : Option Addr) (n269 : Nat) (c270 : Nat), fr322 30 = .agg #[.bool nr267, .slice A268 n269 c270] ∧ Num 32 183 .u32 w321 nr267 A268 n269 c270 (p * ut) ((sp + st)) := hD325 6 _ (by kernel_rfl) rfl (by kernel_rfl)
     have lhp332 := Num.len (by decide) hp332
     obtain ⟨nr333, A334, n335, c336, hv337, hp338⟩ : ∃ (nr313 : Bool) (A314 : Option Addr) (n315 : Nat) (c316 : Nat), fr322 35 = .agg #[.bool nr313, .slice A314 n315 c316] ∧ Num 32 183 .u32 w321 nr313 A314 n315 c316 (r * xt) ((sr + sd)) := hD325 11 _ (by kernel_rfl) rfl (by kernel_rfl)
     have lhp338 := Num.len (by decide) hp338
     refine id (oe_callf (vs := [.agg #[.bool nr327, .slice A328 n329 c330], .agg #[.bool nr333, .slice A334 n335 c336]]) co104 (ar2 (T rfl hv331) (T rfl hv337)) (l1Sub_ok hp332 hp338 (by first | decide | omega) (by first | decide | omega)) ?_)
     rintro _ w344 ⟨nr339, A340, n341, c342, rfl, e345, h343⟩
     have E346 := below_ext E326 E326.size e345
     have lh343 := Num.len (by decide) h343
     exact ⟨e345, nr339, A340, n341, c342, rfl, h343⟩
   · refine .inr ⟨by kernel_rfl, ?_⟩
     intro fr348 w347 e349 hF350 hD351
     have E352 := below_ext E198 E198.size e349
     have hv353 : fr348 25 = .agg #[.bool nb, .slice Ab lb cb] := hD351 1 _ (by kernel_rfl) rfl (by kernel_rfl)
     obtain ⟨nr354, A355, n356, c357, hv358, hp359⟩ : ∃ (nr339 : Bool) (A340 : Option Addr) (n341 : Nat) (c342 : Nat), fr348 36 = .agg #[.bool nr339, .slice A340 n341 c342] ∧ Num 32 183 .u32 w347 nr339 A340 n341 c342 ((p * ut) - (r * xt)) ((max (sp + st) (sr + sd) + 1)) := hD351 12 _ (by kernel_rfl) rfl (by kernel_rfl)
     have lhp359 := Num.len (by decide) hp359
     have h360 := (((((hb.ext n3.ext).ext n8.ext).ext n13.ext).ext e193).ext e349)
     refine id (oe_callf (vs := [.agg #[.bool nb, .slice Ab lb cb], .agg #[.bool nr354, .slice A355 n356 c357]]) co99 (ar2 (T rfl hv353) (T rfl hv358)) (l1Mul_ok h360 hp359 (by first | decide | omega) (by first | decide | omega)) ?_)
     rintro _ w366 ⟨nr361, A362, n363, c364, rfl, e367, h365⟩
     have E368 := below_ext E352 E352.size e367
     have lh365 := Num.len (by decide) h365
     exact ⟨e367, nr361, A362, n363, c364, rfl, h365⟩
   · exact .inl (.inr ⟨by kernel_rfl, fun _ _ => trivial⟩)
   · exact .inl (.inl (by kernel_rfl))
 · refine ⟨⟨⟨_, rfl, fun _ _ => oe_alloc ze100 fun b w hn => ⟨b, rfl, hn⟩⟩, ⟨_, rfl, ?_⟩⟩, trivial⟩
   · intro fr370 w369 b374 e371 hF372 hD373 hA375 hB376
     have E377 := below_ext E198 E198.size e371
     obtain ⟨nr378, A379, n380, c381, hv382, hp383⟩ : ∃ (nr361 : Bool) (A362 : Option Addr) (n363 : Nat) (c364 : Nat), fr370 37 = .agg #[.bool nr361, .slice A362 n363 c364] ∧ Num 32 183 .u32 w369 nr361 A362 n363 c364 (y * ((p * ut) - (r * xt))) ((sy + (max (sp + st) (sr + sd) + 1))) := hD373 13 _ (by kernel_rfl) rfl (by kernel_rfl)
     have lhp383 := Num.len (by decide) hp383
     refine id (oe_store (v := .agg #[.bool nr378, .slice A379 n380 c381]) (vs := [.bool nr378, .slice A379 n380 c381]) (l := [.bool nr378, .slice A379 n380 c381]) (T rfl hA375) (T rfl hv382) sz100 rfl rfl rfl hB376 rfl ?_)
     intro w384 s385 H386
     exact ⟨s385, H386.trans (congrArg (fun v : Value => some (Obj.cells v.cells 100)) (show fr370 37 = _ from hv382).symm)⟩
 intro fr389 w388 e390 hF391 hP392 hM393 hN394
 have E395 := below_ext E198 E198.size e390
 obtain ⟨_, _, _, _, _, _, _, _, _, _, _, _, _, p396, _, _, _⟩ := hP392
 obtain ⟨nr397, A398, n399, c400, hv401, hp402⟩ : ∃ (nr361 : Bool) (A362 : Option Addr) (n363 : Nat) (c364 : Nat), fr389 37 = .agg #[.bool nr361, .slice A362 n363 c364] ∧ Num 32 183 .u32 w388 nr361 A362 n363 c364 (y * ((p * ut) - (r * xt))) ((sy + (max (sp + st) (sr + sd) + 1))) := p396.resolve_left (nst (by kernel_rfl))
 have lhp402 := Num.len (by decide) hp402
 obtain ⟨⟨b403, hA404, hB405, hC406⟩, _⟩ := hM393
 have H407 : w388.heap[b403]? = some (.cells #[.bool nr397, .slice A398 n399 c400] 100) := hC406.trans (congrArg (fun v : Value => some (Obj.cells v.cells 100)) hv401)
 have N408 : w.heap.size ≤ b403 := by omega
 refine rk_seq ?_
 have H409 := (e390.blk H212)
 have : b1 < w388.heap.size := lt_of_blk H409
 have H410 := (e390.blk H213)
 have : b6 < w388.heap.size := lt_of_blk H410
 have H411 := (e390.blk H214)
 have : b11 < w388.heap.size := lt_of_blk H411
 have H412 := (e390.blk H210)
 have : b206 < w388.heap.size := lt_of_blk H412
 have : b403 < w388.heap.size := lt_of_blk H407
 have : w.heap.size ≤ w388.heap.size := E395.size
 refine rk_par2 [fun vq wq_ => vq = .pointer (some ⟨b1, 4, none⟩), fun vq wq_ => vq = .agg #[.bool nm, .slice Am lm cm], fun vq wq_ => vq = .pointer (some ⟨b6, 0, none⟩), fun vq wq_ => vq = .agg #[.bool ne, .slice Ae le ce], fun vq wq_ => vq = .pointer (some ⟨b11, 2, none⟩), fun vq wq_ => vq = .agg #[.bool nj, .slice Aj lj cj], fun vq wq_ => ∃ (nr465 : Bool) (A466 : Option Addr) (n467 : Nat) (c468 : Nat), vq = .agg #[.bool nr465, .slice A466 n467 c468] ∧ Num 32 183 .u32 wq_ nr465 A466 n467 c468 (p * yt) ((sp + se)), fun vq wq_ => vq = .pointer (some ⟨b6, 2, none⟩), fun vq wq_ => vq = .agg #[.bool nf, .slice Af lf cf], fun vq wq_ => vq = .pointer (some ⟨b11, 0, none⟩), fun vq wq_ => vq = .agg #[.bool ni, .slice Ai li ci], fun vq wq_ => ∃ (nr511 : Bool) (A512 : Option Addr) (n513 : Nat) (c514 : Nat), vq = .agg #[.bool nr511, .slice A512 n513 c514] ∧ Num 32 183 .u32 wq_ nr511 A512 n513 c514 (q * xt) ((sq + sd)), fun vq wq_ => ∃ (nr537 : Bool) (A538 : Option Addr) (n539 : Nat) (c540 : Nat), vq = .agg #[.bool nr537, .slice A538 n539 c540] ∧ Num 32 183 .u32 wq_ nr537 A538 n539 c540 ((p * yt) - (q * xt)) ((max (sp + se) (sq + sd) + 1)), fun vq wq_ => ∃ (nr559 : Bool) (A560 : Option Addr) (n561 : Nat) (c562 : Nat), vq = .agg #[.bool nr559, .slice A560 n561 c562] ∧ Num 32 183 .u32 wq_ nr559 A560 n561 c562 (u * ((p * yt) - (q * xt))) ((su + (max (sp + se) (sq + sd) + 1))), fun _ _ => True, fun _ _ => True] [⟨14, 15, 13, 100, #[.bool false, .slice none 0 0]⟩] [100] mo (by kernel_rfl) (by kernel_rfl) ?_ ?_ ?_ ?_ ?_
 · intro e he e2 he2 h; simp only [List.mem_cons, List.not_mem_nil, or_false] at he he2; rcases he with rfl <;> rcases he2 with rfl <;> first | rfl | exact absurd h (by decide)
 · exact ⟨⟨fun v w w2 e h => h, fun v w w2 b cs T fz s hb hT h => h⟩, ⟨fun v w w2 e h => h, fun v w w2 b cs T fz s hb hT h => h⟩, ⟨fun v w w2 e h => h, fun v w w2 b cs T fz s hb hT h => h⟩, ⟨fun v w w2 e h => h, fun v w w2 b cs T fz s hb hT h => h⟩, ⟨fun v w w2 e h => h, fun v w w2 b cs T fz s hb hT h => h⟩, ⟨fun v w w2 e h => h, fun v w w2 b cs T fz s hb hT h => h⟩, ⟨fun v w w2 e ⟨nr465, A466, n467, c468, hv, h0_⟩ => ⟨nr465, A466, n467, c468, hv, h0_.ext e⟩, fun v w w2 b cs T fz s hb hT ⟨nr465, A466, n467, c468, hv, h0_⟩ => ⟨nr465, A466, n467, c468, hv, h0_.st s hb (ts_ne hT (by decide))⟩⟩, ⟨fun v w w2 e h => h, fun v w w2 b cs T fz s hb hT h => h⟩, ⟨fun v w w2 e h => h, fun v w w2 b cs T fz s hb hT h => h⟩, ⟨fun v w w2 e h => h, fun v w w2 b cs T fz s hb hT h => h⟩, ⟨fun v w w2 e h => h, fun v w w2 b cs T fz s hb hT h => h⟩, ⟨fun v w w2 e ⟨nr511, A512, n513, c514, hv, h0_⟩ => ⟨nr511, A512, n513, c514, hv, h0_.ext e⟩, fun v w w2 b cs T fz s hb hT ⟨nr511, A512, n513, c514, hv, h0_⟩ => ⟨nr511, A512, n513, c514, hv, h0_.st s hb (ts_ne hT (by decide))⟩⟩, ⟨fun v w w2 e ⟨nr537, A538, n539, c540, hv, h0_⟩ => ⟨nr537, A538, n539, c540, hv, h0_.ext e⟩, fun v w w2 b cs T fz s hb hT ⟨nr537, A538, n539, c540, hv, h0_⟩ => ⟨nr537, A538, n539, c540, hv, h0_.st s hb (ts_ne hT (by decide))⟩⟩, ⟨fun v w w2 e ⟨nr559, A560, n561, c562, hv, h0_⟩ => ⟨nr559, A560, n561, c562, hv, h0_.ext e⟩, fun v w w2 b cs T fz s hb hT ⟨nr559, A560, n561, c562, hv, h0_⟩ => ⟨nr559, A560, n561, c562, hv, h0_.st s hb (ts_ne hT (by decide))⟩⟩, ⟨fun v w w2 e h => h, fun v w w2 b cs T fz s hb hT h => h⟩, ⟨fun v w w2 e h => h, fun v w w2 b cs T fz s hb hT h => h⟩, trivial⟩
 · refine ⟨?_, ?_, ?_, ?_, ?_, ?_, ?_, ?_, ?_, ?_, ?_, ?_, ?_, ?_, ?_, ?_, trivial⟩
   · refine .inr ⟨by kernel_rfl, ?_⟩
     intro fr414 w413 e415 hF416 hD417
     have E418 := below_ext E395 E395.size e415
     exact DV.oe (dv_fieldAddr (a := ⟨b1, 0, none⟩) (a' := ⟨b1, 4, none⟩) fo102_2 (T rfl ((hF416 3 (by kernel_rfl)).trans ((hF391 3 rfl).trans (hF194 3 rfl)))) rfl) ⟨Below.refl _ _, rfl⟩
   · refine .inr ⟨by kernel_rfl, ?_⟩
     intro fr420 w419 e421 hF422 hD423
     have E424 := below_ext E395 E395.size e421
     have hv425 : fr420 38 = .pointer (some ⟨b1, 4, none⟩) := hD423 0 _ (by kernel_rfl) rfl (by kernel_rfl)
     have H426 := (e421.blk H409)
     exact DV.oe (dv_loads (l := [.bool nm, .slice Am lm cm]) agt100 sz100 (T rfl hv425) H426 rfl) ⟨Below.refl _ _, rfl⟩
   · refine .inr ⟨by kernel_rfl, ?_⟩
     intro fr428 w427 e429 hF430 hD431
     have E432 := below_ext E395 E395.size e429
     exact DV.oe (dv_fieldAddr (a := ⟨b6, 0, none⟩) (a' := ⟨b6, 0, none⟩) fo102_0 (T rfl ((hF430 4 (by kernel_rfl)).trans ((hF391 4 rfl).trans (hF194 4 rfl)))) rfl) ⟨Below.refl _ _, rfl⟩
   · refine .inr ⟨by kernel_rfl, ?_⟩
     intro fr434 w433 e435 hF436 hD437
     have E438 := below_ext E395 E395.size e435
     have hv439 : fr434 40 = .pointer (some ⟨b6, 0, none⟩) := hD437 2 _ (by kernel_rfl) rfl (by kernel_rfl)
     have H440 := (e435.blk H410)
     exact DV.oe (dv_loads (l := [.bool ne, .slice Ae le ce]) agt100 sz100 (T rfl hv439) H440 rfl) ⟨Below.refl _ _, rfl⟩
   · refine .inr ⟨by kernel_rfl, ?_⟩
     intro fr442 w441 e443 hF444 hD445
     have E446 := below_ext E395 E395.size e443
     exact DV.oe (dv_fieldAddr (a := ⟨b11, 0, none⟩) (a' := ⟨b11, 2, none⟩) fo102_1 (T rfl ((hF444 5 (by kernel_rfl)).trans ((hF391 5 rfl).trans (hF194 5 rfl)))) rfl) ⟨Below.refl _ _, rfl⟩
   · refine .inr ⟨by kernel_rfl, ?_⟩
     intro fr448 w447 e449 hF450 hD451
     have E452 := below_ext E395 E395.size e449
     have hv453 : fr448 42 = .pointer (some ⟨b11, 2, none⟩) := hD451 4 _ (by kernel_rfl) rfl (by kernel_rfl)
     have H454 := (e449.blk H411)
     exact DV.oe (dv_loads (l := [.bool nj, .slice Aj lj cj]) agt100 sz100 (T rfl hv453) H454 rfl) ⟨Below.refl _ _, rfl⟩
   · refine .inr ⟨by kernel_rfl, ?_⟩
     intro fr456 w455 e457 hF458 hD459
     have E460 := below_ext E395 E395.size e457
     have hv461 : fr456 41 = .agg #[.bool ne, .slice Ae le ce] := hD459 3 _ (by kernel_rfl) rfl (by kernel_rfl)
     have hv462 : fr456 43 = .agg #[.bool nj, .slice Aj lj cj] := hD459 5 _ (by kernel_rfl) rfl (by kernel_rfl)
     have h463 := ((((((he.ext n3.ext).ext n8.ext).ext n13.ext).ext e193).ext e390).ext e457)
     have h464 := ((((((hj.ext n3.ext).ext n8.ext).ext n13.ext).ext e193).ext e390).ext e457)
     refine id (oe_callf (vs := [.agg #[.bool ne, .slice Ae le ce], .agg #[.bool nj, .slice Aj lj cj]]) co99 (ar2 (T rfl hv461) (T rfl hv462)) (l1Mul_ok h463 h464 (by first | decide | omega) (by first | decide | omega)) ?_)
     rintro _ w470 ⟨nr465, A466, n467, c468, rfl, e471, h469⟩
     have E472 := below_ext E460 E460.size e471
     have lh469 := Num.len (by decide) h469
     exact ⟨e471, nr465, A466, n467, c468, rfl, h469⟩
   · refine .inr ⟨by kernel_rfl, ?_⟩
     intro fr474 w473 e475 hF476 hD477
     have E478 := below_ext E395 E395.size e475
     exact DV.oe (dv_fieldAddr (a := ⟨b6, 0, none⟩) (a' := ⟨b6, 2, none⟩) fo102_1 (T rfl ((hF476 4 (by kernel_rfl)).trans ((hF391 4 rfl).trans (hF194 4 rfl)))) rfl) ⟨Below.refl _ _, rfl⟩
   · refine .inr ⟨by kernel_rfl, ?_⟩
     intro fr480 w479 e481 hF482 hD483
     have E484 := below_ext E395 E395.size e481
     have hv485 : fr480 45 = .pointer (some ⟨b6, 2, none⟩) := hD483 7 _ (by kernel_rfl) rfl (by kernel_rfl)
     have H486 := (e481.blk H410)
     exact DV.oe (dv_loads (l := [.bool nf, .slice Af lf cf]) agt100 sz100 (T rfl hv485) H486 rfl) ⟨Below.refl _ _, rfl⟩
   · refine .inr ⟨by kernel_rfl, ?_⟩
     intro fr488 w487 e489 hF490 hD491
     have E492 := below_ext E395 E395.size e489
     exact DV.oe (dv_fieldAddr (a := ⟨b11, 0, none⟩) (a' := ⟨b11, 0, none⟩) fo102_0 (T rfl ((hF490 5 (by kernel_rfl)).trans ((hF391 5 rfl).trans (hF194 5 rfl)))) rfl) ⟨Below.refl _ _, rfl⟩
   · refine .inr ⟨by kernel_rfl, ?_⟩
     intro fr494 w493 e495 hF496 hD497
     have E498 := below_ext E395 E395.size e495
     have hv499 : fr494 47 = .pointer (some ⟨b11, 0, none⟩) := hD497 9 _ (by kernel_rfl) rfl (by kernel_rfl)
     have H500 := (e495.blk H411)
     exact DV.oe (dv_loads (l := [.bool ni, .slice Ai li ci]) agt100 sz100 (T rfl hv499) H500 rfl) ⟨Below.refl _ _, rfl⟩
   · refine .inr ⟨by kernel_rfl, ?_⟩
     intro fr502 w501 e503 hF504 hD505
     have E506 := below_ext E395 E395.size e503
     have hv507 : fr502 46 = .agg #[.bool nf, .slice Af lf cf] := hD505 8 _ (by kernel_rfl) rfl (by kernel_rfl)
     have hv508 : fr502 48 = .agg #[.bool ni, .slice Ai li ci] := hD505 10 _ (by kernel_rfl) rfl (by kernel_rfl)
     have h509 := ((((((hf.ext n3.ext).ext n8.ext).ext n13.ext).ext e193).ext e390).ext e503)
     have h510 := ((((((hi.ext n3.ext).ext n8.ext).ext n13.ext).ext e193).ext e390).ext e503)
     refine id (oe_callf (vs := [.agg #[.bool nf, .slice Af lf cf], .agg #[.bool ni, .slice Ai li ci]]) co99 (ar2 (T rfl hv507) (T rfl hv508)) (l1Mul_ok h509 h510 (by first | decide | omega) (by first | decide | omega)) ?_)
     rintro _ w516 ⟨nr511, A512, n513, c514, rfl, e517, h515⟩
     have E518 := below_ext E506 E506.size e517
     have lh515 := Num.len (by decide) h515
     exact ⟨e517, nr511, A512, n513, c514, rfl, h515⟩
   · refine .inr ⟨by kernel_rfl, ?_⟩
     intro fr520 w519 e521 hF522 hD523
     have E524 := below_ext E395 E395.size e521
     obtain ⟨nr525, A526, n527, c528, hv529, hp530⟩ : ∃ (nr465 : Bool) (A466 : Option Addr) (n467 : Nat) (c468 : Nat), fr520 44 = .agg #[.bool nr465, .slice A466 n467 c468] ∧ Num 32 183 .u32 w519 nr465 A466 n467 c468 (p * yt) ((sp + se)) := hD523 6 _ (by kernel_rfl) rfl (by kernel_rfl)
     have lhp530 := Num.len (by decide) hp530
     obtain ⟨nr531, A532, n533, c534, hv535, hp536⟩ : ∃ (nr511 : Bool) (A512 : Option Addr) (n513 : Nat) (c514 : Nat), fr520 49 = .agg #[.bool nr511, .slice A512 n513 c514] ∧ Num 32 183 .u32 w519 nr511 A512 n513 c514 (q * xt) ((sq + sd)) := hD523 11 _ (by kernel_rfl) rfl (by kernel_rfl)
     have lhp536 := Num.len (by decide) hp536
     refine id (oe_callf (vs := [.agg #[.bool nr525, .slice A526 n527 c528], .agg #[.bool nr531, .slice A532 n533 c534]]) co104 (ar2 (T rfl hv529) (T rfl hv535)) (l1Sub_ok hp530 hp536 (by first | decide | omega) (by first | decide | omega)) ?_)
     rintro _ w542 ⟨nr537, A538, n539, c540, rfl, e543, h541⟩
     have E544 := below_ext E524 E524.size e543
     have lh541 := Num.len (by decide) h541
     exact ⟨e543, nr537, A538, n539, c540, rfl, h541⟩
   · refine .inr ⟨by kernel_rfl, ?_⟩
     intro fr546 w545 e547 hF548 hD549
     have E550 := below_ext E395 E395.size e547
     have hv551 : fr546 39 = .agg #[.bool nm, .slice Am lm cm] := hD549 1 _ (by kernel_rfl) rfl (by kernel_rfl)
     obtain ⟨nr552, A553, n554, c555, hv556, hp557⟩ : ∃ (nr537 : Bool) (A538 : Option Addr) (n539 : Nat) (c540 : Nat), fr546 50 = .agg #[.bool nr537, .slice A538 n539 c540] ∧ Num 32 183 .u32 w545 nr537 A538 n539 c540 ((p * yt) - (q * xt)) ((max (sp + se) (sq + sd) + 1)) := hD549 12 _ (by kernel_rfl) rfl (by kernel_rfl)
     have lhp557 := Num.len (by decide) hp557
     have h558 := ((((((hm.ext n3.ext).ext n8.ext).ext n13.ext).ext e193).ext e390).ext e547)
     refine id (oe_callf (vs := [.agg #[.bool nm, .slice Am lm cm], .agg #[.bool nr552, .slice A553 n554 c555]]) co99 (ar2 (T rfl hv551) (T rfl hv556)) (l1Mul_ok h558 hp557 (by first | decide | omega) (by first | decide | omega)) ?_)
     rintro _ w564 ⟨nr559, A560, n561, c562, rfl, e565, h563⟩
     have E566 := below_ext E550 E550.size e565
     have lh563 := Num.len (by decide) h563
     exact ⟨e565, nr559, A560, n561, c562, rfl, h563⟩
   · exact .inl (.inr ⟨by kernel_rfl, fun _ _ => trivial⟩)
   · exact .inl (.inl (by kernel_rfl))
 · refine ⟨⟨⟨_, rfl, fun _ _ => oe_alloc ze100 fun b w hn => ⟨b, rfl, hn⟩⟩, ⟨_, rfl, ?_⟩⟩, trivial⟩
   · intro fr568 w567 b572 e569 hF570 hD571 hA573 hB574
     have E575 := below_ext E395 E395.size e569
     obtain ⟨nr576, A577, n578, c579, hv580, hp581⟩ : ∃ (nr559 : Bool) (A560 : Option Addr) (n561 : Nat) (c562 : Nat), fr568 51 = .agg #[.bool nr559, .slice A560 n561 c562] ∧ Num 32 183 .u32 w567 nr559 A560 n561 c562 (u * ((p * yt) - (q * xt))) ((su + (max (sp + se) (sq + sd) + 1))) := hD571 13 _ (by kernel_rfl) rfl (by kernel_rfl)
     have lhp581 := Num.len (by decide) hp581
     refine id (oe_store (v := .agg #[.bool nr576, .slice A577 n578 c579]) (vs := [.bool nr576, .slice A577 n578 c579]) (l := [.bool nr576, .slice A577 n578 c579]) (T rfl hA573) (T rfl hv580) sz100 rfl rfl rfl hB574 rfl ?_)
     intro w582 s583 H584
     exact ⟨s583, H584.trans (congrArg (fun v : Value => some (Obj.cells v.cells 100)) (show fr568 51 = _ from hv580).symm)⟩
 intro fr587 w586 e588 hF589 hP590 hM591 hN592
 have E593 := below_ext E395 E395.size e588
 obtain ⟨_, _, _, _, _, _, _, _, _, _, _, _, _, p594, _, _, _⟩ := hP590
 obtain ⟨nr595, A596, n597, c598, hv599, hp600⟩ : ∃ (nr559 : Bool) (A560 : Option Addr) (n561 : Nat) (c562 : Nat), fr587 51 = .agg #[.bool nr559, .slice A560 n561 c562] ∧ Num 32 183 .u32 w586 nr559 A560 n561 c562 (u * ((p * yt) - (q * xt))) ((su + (max (sp + se) (sq + sd) + 1))) := p594.resolve_left (nst (by kernel_rfl))
 have lhp600 := Num.len (by decide) hp600
 obtain ⟨⟨b601, hA602, hB603, hC604⟩, _⟩ := hM591
 have H605 : w586.heap[b601]? = some (.cells #[.bool nr595, .slice A596 n597 c598] 100) := hC604.trans (congrArg (fun v : Value => some (Obj.cells v.cells 100)) hv599)
 have N606 : w.heap.size ≤ b601 := by omega
 refine rk_seq ?_
 refine rk_any (fun w => w.heap[b206]? = some (.cells #[.bool nr200, .slice A201 n202 c203] 100) ∧ w.heap[b403]? = some (.cells #[.bool nr397, .slice A398 n399 c400] 100) ∧ w.heap[b601]? = some (.cells #[.bool nr595, .slice A596 n597 c598] 100)) [6] mo ?_
 intro w607 d608
 have E609 := below_ext E593 E593.size d608.ext
 have H610 := (d608.ext.blk (e588.blk H412))
 have H611 := (d608.ext.blk (e588.blk H407))
 have H612 := (d608.ext.blk H605)
 refine aw_load 0 (.agg #[.bool nr200, .slice A201 n202 c203]) rfl (by kernel_rfl) .none ⟨H610, H611, H612⟩ (fun _ s => dv_loads (l := [.bool nr200, .slice A201 n202 c203]) agt100 sz100 (T rfl ((hF589 7 rfl).trans ((hF391 7 rfl).trans hA207))) s.1 rfl) ?_
 refine aw_load 1 (.agg #[.bool nr397, .slice A398 n399 c400]) rfl (by kernel_rfl) .none ⟨H610, H611, H612⟩ (fun _ s => dv_loads (l := [.bool nr397, .slice A398 n399 c400]) agt100 sz100 (T rfl ((hF589 8 rfl).trans hA404)) s.2.1 rfl) ?_
 refine aw_load 3 (.agg #[.bool nr595, .slice A596 n597 c598]) rfl (by kernel_rfl) .none ⟨H610, H611, H612⟩ (fun _ s => dv_loads (l := [.bool nr595, .slice A596 n597 c598]) agt100 sz100 (T rfl hA602) s.2.2 rfl) ?_
 have h613 := (((hp205.ext e390).ext e588).ext d608.ext)
 have h614 := ((hp402.ext e588).ext d608.ext)
 refine aw_one 2 rfl (by kernel_rfl) .none (oe_callf (vs := [.agg #[.bool nr200, .slice A201 n202 c203], .agg #[.bool nr397, .slice A398 n399 c400]]) co104 (ar2 (T rfl rfl) (T rfl rfl)) (l1Sub_ok h613 h614 (by first | decide | omega) (by first | decide | omega)) ?_)
 rintro _ w620 ⟨nr615, A616, n617, c618, rfl, e621, h619⟩
 have E622 := below_ext E609 E609.size e621
 have lh619 := Num.len (by decide) h619
 have H623 := (e621.blk H610)
 have H624 := (e621.blk H611)
 have H625 := (e621.blk H612)
 refine ⟨.inr ⟨H623, H624, H625⟩, ?_⟩
 have h626 := ((hp600.ext d608.ext).ext e621)
 refine aw_one 4 rfl (by kernel_rfl) .none (oe_callf (vs := [.agg #[.bool nr615, .slice A616 n617 c618], .agg #[.bool nr595, .slice A596 n597 c598]]) co98 (ar2 (T rfl rfl) (T rfl rfl)) (l1Add_ok h619 h626 (by first | decide | omega) (by first | decide | omega)) ?_)
 rintro _ w632 ⟨nr627, A628, n629, c630, rfl, e633, h631⟩
 have E634 := below_ext E622 E622.size e633
 have lh631 := Num.len (by decide) h631
 have H635 := (e633.blk H623)
 have H636 := (e633.blk H624)
 have H637 := (e633.blk H625)
 refine ⟨.inr ⟨H635, H636, H637⟩, ?_⟩
 refine aw_one 5 rfl (by kernel_rfl) .none (oe_callf (vs := [.agg #[.bool nr627, .slice A628 n629 c630]]) co126 (ar1 (T rfl rfl)) (l1Sign_ok h631 ) ?_)
 rintro _ w638 ⟨rfl, e639⟩
 have E640 := below_ext E634 E634.size e639
 have H641 := (e639.blk H635)
 have H642 := (e639.blk H636)
 have H643 := (e639.blk H637)
 refine ⟨.inr ⟨H641, H642, H643⟩, ?_⟩
 refine aw_last 6 (.int .i64 (sgnI (((x * ((q * ut) - (r * yt))) - (y * ((p * ut) - (r * xt)))) + (u * ((p * yt) - (q * xt)))))) rfl (by kernel_rfl) .none (fun _ => dv_assign (T rfl rfl)) ?_
 refine aw_done (by kernel_rfl) ?_
 refine rk_ret Try.func73 (v := .int .i64 (sgnI (((x * ((q * ut) - (r * yt))) - (y * ((p * ut) - (r * xt)))) + (u * ((p * yt) - (q * xt)))))) (res1 Try.results73 (rv_tmp rfl rfl)) ⟨_, rfl, ?_⟩
 exact ⟨(vi (by unfold ori; congr 1)), E640⟩
set_option maxHeartbeats 1000000 in
theorem turn_ok {w : World} {x y u p q r xt yt ut : Int} (fx_ : fits x) (fy_ : fits y) (fu_ : fits u) (fp_ : fits p) (fq_ : fits q) (fr_ : fits r) (fxt_ : fits xt) (fyt_ : fits yt) (fut_ : fits ut)  : Ct Try.prog 131 [.agg #[.int .u64 (wv3 x), .int .u64 (wv2 x), .int .u64 (wv1 x), .int .u64 (wv0 x), .int .u64 (wv3 y), .int .u64 (wv2 y), .int .u64 (wv1 y), .int .u64 (wv0 y), .int .u64 (wv3 u), .int .u64 (wv2 u), .int .u64 (wv1 u), .int .u64 (wv0 u)], .agg #[.int .u64 (wv3 p), .int .u64 (wv2 p), .int .u64 (wv1 p), .int .u64 (wv0 p), .int .u64 (wv3 q), .int .u64 (wv2 q), .int .u64 (wv1 q), .int .u64 (wv0 q), .int .u64 (wv3 r), .int .u64 (wv2 r), .int .u64 (wv1 r), .int .u64 (wv0 r)], .agg #[.int .u64 (wv3 xt), .int .u64 (wv2 xt), .int .u64 (wv1 xt), .int .u64 (wv0 xt), .int .u64 (wv3 yt), .int .u64 (wv2 yt), .int .u64 (wv1 yt), .int .u64 (wv0 yt), .int .u64 (wv3 ut), .int .u64 (wv2 ut), .int .u64 (wv1 ut), .int .u64 (wv0 ut)]] w fun v w1 => v = .int .i64 (ori x y u p q r xt yt ut) ∧ Ext w w1 := by
 refine ct_run (n := 67) Try.func131 rfl Try.ntmps131 rfl ?_
 have E0 : Below w.heap.size w w := Below.refl _ _
 refine rk_seq ?_
 refine rk_reg ?_
 refine lw_e (oe_box (v := .agg #[.int .u64 (wv3 x), .int .u64 (wv2 x), .int .u64 (wv1 x), .int .u64 (wv0 x), .int .u64 (wv3 y), .int .u64 (wv2 y), .int .u64 (wv1 y), .int .u64 (wv0 y), .int .u64 (wv3 u), .int .u64 (wv2 u), .int .u64 (wv1 u), .int .u64 (wv0 u)]) (cs := #[.int .u64 (wv3 x), .int .u64 (wv2 x), .int .u64 (wv1 x), .int .u64 (wv0 x), .int .u64 (wv3 y), .int .u64 (wv2 y), .int .u64 (wv1 y), .int .u64 (wv0 y), .int .u64 (wv3 u), .int .u64 (wv2 u), .int .u64 (wv1 u), .int .u64 (wv0 u)]) (T rfl rfl) rfl ?_)
 intro b1 w2 n3
 have N4 : w.heap.size ≤ b1 := n3.eq ▸ E0.size
 have E5 := below_ext E0 E0.size n3.ext
 refine lw_e (oe_box (v := .agg #[.int .u64 (wv3 p), .int .u64 (wv2 p), .int .u64 (wv1 p), .int .u64 (wv0 p), .int .u64 (wv3 q), .int .u64 (wv2 q), .int .u64 (wv1 q), .int .u64 (wv0 q), .int .u64 (wv3 r), .int .u64 (wv2 r), .int .u64 (wv1 r), .int .u64 (wv0 r)]) (cs := #[.int .u64 (wv3 p), .int .u64 (wv2 p), .int .u64 (wv1 p), .int .u64 (wv0 p), .int .u64 (wv3 q), .int .u64 (wv2 q), .int .u64 (wv1 q), .int .u64 (wv0 q), .int .u64 (wv3 r), .int .u64 (wv2 r), .int .u64 (wv1 r), .int .u64 (wv0 r)]) (T rfl rfl) rfl ?_)
 intro b6 w7 n8
 have N9 : w.heap.size ≤ b6 := n8.eq ▸ E5.size
 have : b1 < b6 := n8.eq ▸ lt_of_blk n3.blk
 have E10 := below_ext E5 E5.size n8.ext
 refine lw_e (oe_box (v := .agg #[.int .u64 (wv3 xt), .int .u64 (wv2 xt), .int .u64 (wv1 xt), .int .u64 (wv0 xt), .int .u64 (wv3 yt), .int .u64 (wv2 yt), .int .u64 (wv1 yt), .int .u64 (wv0 yt), .int .u64 (wv3 ut), .int .u64 (wv2 ut), .int .u64 (wv1 ut), .int .u64 (wv0 ut)]) (cs := #[.int .u64 (wv3 xt), .int .u64 (wv2 xt), .int .u64 (wv1 xt), .int .u64 (wv0 xt), .int .u64 (wv3 yt), .int .u64 (wv2 yt), .int .u64 (wv1 yt), .int .u64 (wv0 yt), .int .u64 (wv3 ut), .int .u64 (wv2 ut), .int .u64 (wv1 ut), .int .u64 (wv0 ut)]) (T rfl rfl) rfl ?_)
 intro b11 w12 n13
 have N14 : w.heap.size ≤ b11 := n13.eq ▸ E10.size
 have : b6 < b11 := n13.eq ▸ lt_of_blk n8.blk
 have E15 := below_ext E10 E10.size n13.ext
 refine lw_v (.int .i64 0) (dv_assign C) ?_
 refine lw_nil ?_
 refine rk_seq ?_
 have H16 := (n13.ext.blk (n8.ext.blk n3.blk))
 have : b1 < w12.heap.size := lt_of_blk H16
 have H17 := (n13.ext.blk n8.blk)
 have : b6 < w12.heap.size := lt_of_blk H17
 have : b11 < w12.heap.size := lt_of_blk n13.blk
 have : w.heap.size ≤ w12.heap.size := E15.size
 refine rk_par2 [fun vq wq_ => vq = .agg #[.int .u64 (wv3 x), .int .u64 (wv2 x), .int .u64 (wv1 x), .int .u64 (wv0 x), .int .u64 (wv3 y), .int .u64 (wv2 y), .int .u64 (wv1 y), .int .u64 (wv0 y), .int .u64 (wv3 u), .int .u64 (wv2 u), .int .u64 (wv1 u), .int .u64 (wv0 u)], fun vq wq_ => ∃ (nr32 : Bool) (A33 : Option Addr) (n34 : Nat) (c35 : Nat) (nr36 : Bool) (A37 : Option Addr) (n38 : Nat) (c39 : Nat) (nr40 : Bool) (A41 : Option Addr) (n42 : Nat) (c43 : Nat), vq = .agg #[.bool nr32, .slice A33 n34 c35, .bool nr36, .slice A37 n38 c39, .bool nr40, .slice A41 n42 c43] ∧ Num 64 29 .u64 wq_ nr32 A33 n34 c35 x 256 ∧ Num 64 29 .u64 wq_ nr36 A37 n38 c39 y 256 ∧ Num 64 29 .u64 wq_ nr40 A41 n42 c43 u 256, fun vq wq_ => vq = .agg #[.int .u64 (wv3 p), .int .u64 (wv2 p), .int .u64 (wv1 p), .int .u64 (wv0 p), .int .u64 (wv3 q), .int .u64 (wv2 q), .int .u64 (wv1 q), .int .u64 (wv0 q), .int .u64 (wv3 r), .int .u64 (wv2 r), .int .u64 (wv1 r), .int .u64 (wv0 r)], fun vq wq_ => ∃ (nr64 : Bool) (A65 : Option Addr) (n66 : Nat) (c67 : Nat) (nr68 : Bool) (A69 : Option Addr) (n70 : Nat) (c71 : Nat) (nr72 : Bool) (A73 : Option Addr) (n74 : Nat) (c75 : Nat), vq = .agg #[.bool nr64, .slice A65 n66 c67, .bool nr68, .slice A69 n70 c71, .bool nr72, .slice A73 n74 c75] ∧ Num 64 29 .u64 wq_ nr64 A65 n66 c67 p 256 ∧ Num 64 29 .u64 wq_ nr68 A69 n70 c71 q 256 ∧ Num 64 29 .u64 wq_ nr72 A73 n74 c75 r 256, fun vq wq_ => vq = .agg #[.int .u64 (wv3 xt), .int .u64 (wv2 xt), .int .u64 (wv1 xt), .int .u64 (wv0 xt), .int .u64 (wv3 yt), .int .u64 (wv2 yt), .int .u64 (wv1 yt), .int .u64 (wv0 yt), .int .u64 (wv3 ut), .int .u64 (wv2 ut), .int .u64 (wv1 ut), .int .u64 (wv0 ut)], fun vq wq_ => ∃ (nr96 : Bool) (A97 : Option Addr) (n98 : Nat) (c99 : Nat) (nr100 : Bool) (A101 : Option Addr) (n102 : Nat) (c103 : Nat) (nr104 : Bool) (A105 : Option Addr) (n106 : Nat) (c107 : Nat), vq = .agg #[.bool nr96, .slice A97 n98 c99, .bool nr100, .slice A101 n102 c103, .bool nr104, .slice A105 n106 c107] ∧ Num 64 29 .u64 wq_ nr96 A97 n98 c99 xt 256 ∧ Num 64 29 .u64 wq_ nr100 A101 n102 c103 yt 256 ∧ Num 64 29 .u64 wq_ nr104 A105 n106 c107 ut 256, fun _ _ => True, fun _ _ => True, fun _ _ => True, fun _ _ => True, fun _ _ => True, fun _ _ => True] [⟨6, 9, 1, 122, #[.bool false, .slice none 0 0, .bool false, .slice none 0 0, .bool false, .slice none 0 0]⟩, ⟨7, 10, 3, 122, #[.bool false, .slice none 0 0, .bool false, .slice none 0 0, .bool false, .slice none 0 0]⟩, ⟨8, 11, 5, 122, #[.bool false, .slice none 0 0, .bool false, .slice none 0 0, .bool false, .slice none 0 0]⟩] [122] mo (by kernel_rfl) (by kernel_rfl) ?_ ?_ ?_ ?_ ?_
 · intro e he e2 he2 h; simp only [List.mem_cons, List.not_mem_nil, or_false] at he he2; rcases he with rfl | rfl | rfl <;> rcases he2 with rfl | rfl | rfl <;> first | rfl | exact absurd h (by decide)
 · exact ⟨⟨fun v w w2 e h => h, fun v w w2 b cs T fz s hb hT h => h⟩, ⟨fun v w w2 e ⟨nr32, A33, n34, c35, nr36, A37, n38, c39, nr40, A41, n42, c43, hv, h0_, h1_, h2_⟩ => ⟨nr32, A33, n34, c35, nr36, A37, n38, c39, nr40, A41, n42, c43, hv, h0_.ext e, h1_.ext e, h2_.ext e⟩, fun v w w2 b cs T fz s hb hT ⟨nr32, A33, n34, c35, nr36, A37, n38, c39, nr40, A41, n42, c43, hv, h0_, h1_, h2_⟩ => ⟨nr32, A33, n34, c35, nr36, A37, n38, c39, nr40, A41, n42, c43, hv, h0_.st s hb (ts_ne hT (by decide)), h1_.st s hb (ts_ne hT (by decide)), h2_.st s hb (ts_ne hT (by decide))⟩⟩, ⟨fun v w w2 e h => h, fun v w w2 b cs T fz s hb hT h => h⟩, ⟨fun v w w2 e ⟨nr64, A65, n66, c67, nr68, A69, n70, c71, nr72, A73, n74, c75, hv, h0_, h1_, h2_⟩ => ⟨nr64, A65, n66, c67, nr68, A69, n70, c71, nr72, A73, n74, c75, hv, h0_.ext e, h1_.ext e, h2_.ext e⟩, fun v w w2 b cs T fz s hb hT ⟨nr64, A65, n66, c67, nr68, A69, n70, c71, nr72, A73, n74, c75, hv, h0_, h1_, h2_⟩ => ⟨nr64, A65, n66, c67, nr68, A69, n70, c71, nr72, A73, n74, c75, hv, h0_.st s hb (ts_ne hT (by decide)), h1_.st s hb (ts_ne hT (by decide)), h2_.st s hb (ts_ne hT (by decide))⟩⟩, ⟨fun v w w2 e h => h, fun v w w2 b cs T fz s hb hT h => h⟩, ⟨fun v w w2 e ⟨nr96, A97, n98, c99, nr100, A101, n102, c103, nr104, A105, n106, c107, hv, h0_, h1_, h2_⟩ => ⟨nr96, A97, n98, c99, nr100, A101, n102, c103, nr104, A105, n106, c107, hv, h0_.ext e, h1_.ext e, h2_.ext e⟩, fun v w w2 b cs T fz s hb hT ⟨nr96, A97, n98, c99, nr100, A101, n102, c103, nr104, A105, n106, c107, hv, h0_, h1_, h2_⟩ => ⟨nr96, A97, n98, c99, nr100, A101, n102, c103, nr104, A105, n106, c107, hv, h0_.st s hb (ts_ne hT (by decide)), h1_.st s hb (ts_ne hT (by decide)), h2_.st s hb (ts_ne hT (by decide))⟩⟩, ⟨fun v w w2 e h => h, fun v w w2 b cs T fz s hb hT h => h⟩, ⟨fun v w w2 e h => h, fun v w w2 b cs T fz s hb hT h => h⟩, ⟨fun v w w2 e h => h, fun v w w2 b cs T fz s hb hT h => h⟩, ⟨fun v w w2 e h => h, fun v w w2 b cs T fz s hb hT h => h⟩, ⟨fun v w w2 e h => h, fun v w w2 b cs T fz s hb hT h => h⟩, ⟨fun v w w2 e h => h, fun v w w2 b cs T fz s hb hT h => h⟩, trivial⟩
 · refine ⟨?_, ?_, ?_, ?_, ?_, ?_, ?_, ?_, ?_, ?_, ?_, ?_, trivial⟩
   · refine .inr ⟨by kernel_rfl, ?_⟩
     intro fr19 w18 e20 hF21 hD22
     have E23 := below_ext E15 E15.size e20
     have H24 := (e20.blk H16)
     exact DV.oe (dv_loads (l := [.int .u64 (wv3 x), .int .u64 (wv2 x), .int .u64 (wv1 x), .int .u64 (wv0 x), .int .u64 (wv3 y), .int .u64 (wv2 y), .int .u64 (wv1 y), .int .u64 (wv0 y), .int .u64 (wv3 u), .int .u64 (wv2 u), .int .u64 (wv1 u), .int .u64 (wv0 u)]) agt37 sz37 (T rfl (hF21 3 (by kernel_rfl))) H24 rfl) ⟨Below.refl _ _, rfl⟩
   · refine .inr ⟨by kernel_rfl, ?_⟩
     intro fr26 w25 e27 hF28 hD29
     have E30 := below_ext E15 E15.size e27
     have hv31 : fr26 13 = .agg #[.int .u64 (wv3 x), .int .u64 (wv2 x), .int .u64 (wv1 x), .int .u64 (wv0 x), .int .u64 (wv3 y), .int .u64 (wv2 y), .int .u64 (wv1 y), .int .u64 (wv0 y), .int .u64 (wv3 u), .int .u64 (wv2 u), .int .u64 (wv1 u), .int .u64 (wv0 u)] := hD29 0 _ (by kernel_rfl) rfl (by kernel_rfl)
     refine id (oe_callf (vs := [.agg #[.int .u64 (wv3 x), .int .u64 (wv2 x), .int .u64 (wv1 x), .int .u64 (wv0 x), .int .u64 (wv3 y), .int .u64 (wv2 y), .int .u64 (wv1 y), .int .u64 (wv0 y), .int .u64 (wv3 u), .int .u64 (wv2 u), .int .u64 (wv1 u), .int .u64 (wv0 u)]]) co90 (ar1 (T rfl hv31)) (spot_ok fx_ fy_ fu_  ) ?_)
     rintro _ w47 ⟨nr32, A33, n34, c35, nr36, A37, n38, c39, nr40, A41, n42, c43, rfl, e48, h44, h45, h46⟩
     have E49 := below_ext E30 E30.size e48
     have lh44 := Num.len (by decide) h44
     have lh45 := Num.len (by decide) h45
     have lh46 := Num.len (by decide) h46
     exact ⟨e48, nr32, A33, n34, c35, nr36, A37, n38, c39, nr40, A41, n42, c43, rfl, h44, h45, h46⟩
   · refine .inr ⟨by kernel_rfl, ?_⟩
     intro fr51 w50 e52 hF53 hD54
     have E55 := below_ext E15 E15.size e52
     have H56 := (e52.blk H17)
     exact DV.oe (dv_loads (l := [.int .u64 (wv3 p), .int .u64 (wv2 p), .int .u64 (wv1 p), .int .u64 (wv0 p), .int .u64 (wv3 q), .int .u64 (wv2 q), .int .u64 (wv1 q), .int .u64 (wv0 q), .int .u64 (wv3 r), .int .u64 (wv2 r), .int .u64 (wv1 r), .int .u64 (wv0 r)]) agt37 sz37 (T rfl (hF53 4 (by kernel_rfl))) H56 rfl) ⟨Below.refl _ _, rfl⟩
   · refine .inr ⟨by kernel_rfl, ?_⟩
     intro fr58 w57 e59 hF60 hD61
     have E62 := below_ext E15 E15.size e59
     have hv63 : fr58 15 = .agg #[.int .u64 (wv3 p), .int .u64 (wv2 p), .int .u64 (wv1 p), .int .u64 (wv0 p), .int .u64 (wv3 q), .int .u64 (wv2 q), .int .u64 (wv1 q), .int .u64 (wv0 q), .int .u64 (wv3 r), .int .u64 (wv2 r), .int .u64 (wv1 r), .int .u64 (wv0 r)] := hD61 2 _ (by kernel_rfl) rfl (by kernel_rfl)
     refine id (oe_callf (vs := [.agg #[.int .u64 (wv3 p), .int .u64 (wv2 p), .int .u64 (wv1 p), .int .u64 (wv0 p), .int .u64 (wv3 q), .int .u64 (wv2 q), .int .u64 (wv1 q), .int .u64 (wv0 q), .int .u64 (wv3 r), .int .u64 (wv2 r), .int .u64 (wv1 r), .int .u64 (wv0 r)]]) co90 (ar1 (T rfl hv63)) (spot_ok fp_ fq_ fr_  ) ?_)
     rintro _ w79 ⟨nr64, A65, n66, c67, nr68, A69, n70, c71, nr72, A73, n74, c75, rfl, e80, h76, h77, h78⟩
     have E81 := below_ext E62 E62.size e80
     have lh76 := Num.len (by decide) h76
     have lh77 := Num.len (by decide) h77
     have lh78 := Num.len (by decide) h78
     exact ⟨e80, nr64, A65, n66, c67, nr68, A69, n70, c71, nr72, A73, n74, c75, rfl, h76, h77, h78⟩
   · refine .inr ⟨by kernel_rfl, ?_⟩
     intro fr83 w82 e84 hF85 hD86
     have E87 := below_ext E15 E15.size e84
     have H88 := (e84.blk n13.blk)
     exact DV.oe (dv_loads (l := [.int .u64 (wv3 xt), .int .u64 (wv2 xt), .int .u64 (wv1 xt), .int .u64 (wv0 xt), .int .u64 (wv3 yt), .int .u64 (wv2 yt), .int .u64 (wv1 yt), .int .u64 (wv0 yt), .int .u64 (wv3 ut), .int .u64 (wv2 ut), .int .u64 (wv1 ut), .int .u64 (wv0 ut)]) agt37 sz37 (T rfl (hF85 5 (by kernel_rfl))) H88 rfl) ⟨Below.refl _ _, rfl⟩
   · refine .inr ⟨by kernel_rfl, ?_⟩
     intro fr90 w89 e91 hF92 hD93
     have E94 := below_ext E15 E15.size e91
     have hv95 : fr90 17 = .agg #[.int .u64 (wv3 xt), .int .u64 (wv2 xt), .int .u64 (wv1 xt), .int .u64 (wv0 xt), .int .u64 (wv3 yt), .int .u64 (wv2 yt), .int .u64 (wv1 yt), .int .u64 (wv0 yt), .int .u64 (wv3 ut), .int .u64 (wv2 ut), .int .u64 (wv1 ut), .int .u64 (wv0 ut)] := hD93 4 _ (by kernel_rfl) rfl (by kernel_rfl)
     refine id (oe_callf (vs := [.agg #[.int .u64 (wv3 xt), .int .u64 (wv2 xt), .int .u64 (wv1 xt), .int .u64 (wv0 xt), .int .u64 (wv3 yt), .int .u64 (wv2 yt), .int .u64 (wv1 yt), .int .u64 (wv0 yt), .int .u64 (wv3 ut), .int .u64 (wv2 ut), .int .u64 (wv1 ut), .int .u64 (wv0 ut)]]) co90 (ar1 (T rfl hv95)) (spot_ok fxt_ fyt_ fut_  ) ?_)
     rintro _ w111 ⟨nr96, A97, n98, c99, nr100, A101, n102, c103, nr104, A105, n106, c107, rfl, e112, h108, h109, h110⟩
     have E113 := below_ext E94 E94.size e112
     have lh108 := Num.len (by decide) h108
     have lh109 := Num.len (by decide) h109
     have lh110 := Num.len (by decide) h110
     exact ⟨e112, nr96, A97, n98, c99, nr100, A101, n102, c103, nr104, A105, n106, c107, rfl, h108, h109, h110⟩
   · exact .inl (.inr ⟨by kernel_rfl, fun _ _ => trivial⟩)
   · exact .inl (.inr ⟨by kernel_rfl, fun _ _ => trivial⟩)
   · exact .inl (.inr ⟨by kernel_rfl, fun _ _ => trivial⟩)
   · exact .inl (.inl (by kernel_rfl))
   · exact .inl (.inl (by kernel_rfl))
   · exact .inl (.inl (by kernel_rfl))
 · refine ⟨⟨⟨_, rfl, fun _ _ => oe_alloc ze122 fun b w hn => ⟨b, rfl, hn⟩⟩, ⟨_, rfl, ?_⟩⟩, ⟨⟨_, rfl, fun _ _ => oe_alloc ze122 fun b w hn => ⟨b, rfl, hn⟩⟩, ⟨_, rfl, ?_⟩⟩, ⟨⟨_, rfl, fun _ _ => oe_alloc ze122 fun b w hn => ⟨b, rfl, hn⟩⟩, ⟨_, rfl, ?_⟩⟩, trivial⟩
   · intro fr115 w114 b119 e116 hF117 hD118 hA120 hB121
     have E122 := below_ext E15 E15.size e116
     obtain ⟨nr123, A124, n125, c126, nr127, A128, n129, c130, nr131, A132, n133, c134, hv135, hp136, hp137, hp138⟩ : ∃ (nr32 : Bool) (A33 : Option Addr) (n34 : Nat) (c35 : Nat) (nr36 : Bool) (A37 : Option Addr) (n38 : Nat) (c39 : Nat) (nr40 : Bool) (A41 : Option Addr) (n42 : Nat) (c43 : Nat), fr115 14 = .agg #[.bool nr32, .slice A33 n34 c35, .bool nr36, .slice A37 n38 c39, .bool nr40, .slice A41 n42 c43] ∧ Num 64 29 .u64 w114 nr32 A33 n34 c35 x 256 ∧ Num 64 29 .u64 w114 nr36 A37 n38 c39 y 256 ∧ Num 64 29 .u64 w114 nr40 A41 n42 c43 u 256 := hD118 1 _ (by kernel_rfl) rfl (by kernel_rfl)
     have lhp136 := Num.len (by decide) hp136
     have lhp137 := Num.len (by decide) hp137
     have lhp138 := Num.len (by decide) hp138
     refine id (oe_store (v := .agg #[.bool nr123, .slice A124 n125 c126, .bool nr127, .slice A128 n129 c130, .bool nr131, .slice A132 n133 c134]) (vs := [.bool nr123, .slice A124 n125 c126, .bool nr127, .slice A128 n129 c130, .bool nr131, .slice A132 n133 c134]) (l := [.bool nr123, .slice A124 n125 c126, .bool nr127, .slice A128 n129 c130, .bool nr131, .slice A132 n133 c134]) (T rfl hA120) (T rfl hv135) sz122 rfl rfl rfl hB121 rfl ?_)
     intro w139 s140 H141
     exact ⟨s140, H141.trans (congrArg (fun v : Value => some (Obj.cells v.cells 122)) (show fr115 14 = _ from hv135).symm)⟩
   · intro fr144 w143 b148 e145 hF146 hD147 hA149 hB150
     have E151 := below_ext E15 E15.size e145
     obtain ⟨nr152, A153, n154, c155, nr156, A157, n158, c159, nr160, A161, n162, c163, hv164, hp165, hp166, hp167⟩ : ∃ (nr64 : Bool) (A65 : Option Addr) (n66 : Nat) (c67 : Nat) (nr68 : Bool) (A69 : Option Addr) (n70 : Nat) (c71 : Nat) (nr72 : Bool) (A73 : Option Addr) (n74 : Nat) (c75 : Nat), fr144 16 = .agg #[.bool nr64, .slice A65 n66 c67, .bool nr68, .slice A69 n70 c71, .bool nr72, .slice A73 n74 c75] ∧ Num 64 29 .u64 w143 nr64 A65 n66 c67 p 256 ∧ Num 64 29 .u64 w143 nr68 A69 n70 c71 q 256 ∧ Num 64 29 .u64 w143 nr72 A73 n74 c75 r 256 := hD147 3 _ (by kernel_rfl) rfl (by kernel_rfl)
     have lhp165 := Num.len (by decide) hp165
     have lhp166 := Num.len (by decide) hp166
     have lhp167 := Num.len (by decide) hp167
     refine id (oe_store (v := .agg #[.bool nr152, .slice A153 n154 c155, .bool nr156, .slice A157 n158 c159, .bool nr160, .slice A161 n162 c163]) (vs := [.bool nr152, .slice A153 n154 c155, .bool nr156, .slice A157 n158 c159, .bool nr160, .slice A161 n162 c163]) (l := [.bool nr152, .slice A153 n154 c155, .bool nr156, .slice A157 n158 c159, .bool nr160, .slice A161 n162 c163]) (T rfl hA149) (T rfl hv164) sz122 rfl rfl rfl hB150 rfl ?_)
     intro w168 s169 H170
     exact ⟨s169, H170.trans (congrArg (fun v : Value => some (Obj.cells v.cells 122)) (show fr144 16 = _ from hv164).symm)⟩
   · intro fr173 w172 b177 e174 hF175 hD176 hA178 hB179
     have E180 := below_ext E15 E15.size e174
     obtain ⟨nr181, A182, n183, c184, nr185, A186, n187, c188, nr189, A190, n191, c192, hv193, hp194, hp195, hp196⟩ : ∃ (nr96 : Bool) (A97 : Option Addr) (n98 : Nat) (c99 : Nat) (nr100 : Bool) (A101 : Option Addr) (n102 : Nat) (c103 : Nat) (nr104 : Bool) (A105 : Option Addr) (n106 : Nat) (c107 : Nat), fr173 18 = .agg #[.bool nr96, .slice A97 n98 c99, .bool nr100, .slice A101 n102 c103, .bool nr104, .slice A105 n106 c107] ∧ Num 64 29 .u64 w172 nr96 A97 n98 c99 xt 256 ∧ Num 64 29 .u64 w172 nr100 A101 n102 c103 yt 256 ∧ Num 64 29 .u64 w172 nr104 A105 n106 c107 ut 256 := hD176 5 _ (by kernel_rfl) rfl (by kernel_rfl)
     have lhp194 := Num.len (by decide) hp194
     have lhp195 := Num.len (by decide) hp195
     have lhp196 := Num.len (by decide) hp196
     refine id (oe_store (v := .agg #[.bool nr181, .slice A182 n183 c184, .bool nr185, .slice A186 n187 c188, .bool nr189, .slice A190 n191 c192]) (vs := [.bool nr181, .slice A182 n183 c184, .bool nr185, .slice A186 n187 c188, .bool nr189, .slice A190 n191 c192]) (l := [.bool nr181, .slice A182 n183 c184, .bool nr185, .slice A186 n187 c188, .bool nr189, .slice A190 n191 c192]) (T rfl hA178) (T rfl hv193) sz122 rfl rfl rfl hB179 rfl ?_)
     intro w197 s198 H199
     exact ⟨s198, H199.trans (congrArg (fun v : Value => some (Obj.cells v.cells 122)) (show fr173 18 = _ from hv193).symm)⟩
 intro fr202 w201 e203 hF204 hP205 hM206 hN207
 have E208 := below_ext E15 E15.size e203
 obtain ⟨_, p209, _, p210, _, p211, _, _, _, _, _, _, _⟩ := hP205
 obtain ⟨nr212, A213, n214, c215, nr216, A217, n218, c219, nr220, A221, n222, c223, hv224, hp225, hp226, hp227⟩ : ∃ (nr32 : Bool) (A33 : Option Addr) (n34 : Nat) (c35 : Nat) (nr36 : Bool) (A37 : Option Addr) (n38 : Nat) (c39 : Nat) (nr40 : Bool) (A41 : Option Addr) (n42 : Nat) (c43 : Nat), fr202 14 = .agg #[.bool nr32, .slice A33 n34 c35, .bool nr36, .slice A37 n38 c39, .bool nr40, .slice A41 n42 c43] ∧ Num 64 29 .u64 w201 nr32 A33 n34 c35 x 256 ∧ Num 64 29 .u64 w201 nr36 A37 n38 c39 y 256 ∧ Num 64 29 .u64 w201 nr40 A41 n42 c43 u 256 := p209.resolve_left (nst (by kernel_rfl))
 have lhp225 := Num.len (by decide) hp225
 have lhp226 := Num.len (by decide) hp226
 have lhp227 := Num.len (by decide) hp227
 obtain ⟨nr228, A229, n230, c231, nr232, A233, n234, c235, nr236, A237, n238, c239, hv240, hp241, hp242, hp243⟩ : ∃ (nr64 : Bool) (A65 : Option Addr) (n66 : Nat) (c67 : Nat) (nr68 : Bool) (A69 : Option Addr) (n70 : Nat) (c71 : Nat) (nr72 : Bool) (A73 : Option Addr) (n74 : Nat) (c75 : Nat), fr202 16 = .agg #[.bool nr64, .slice A65 n66 c67, .bool nr68, .slice A69 n70 c71, .bool nr72, .slice A73 n74 c75] ∧ Num 64 29 .u64 w201 nr64 A65 n66 c67 p 256 ∧ Num 64 29 .u64 w201 nr68 A69 n70 c71 q 256 ∧ Num 64 29 .u64 w201 nr72 A73 n74 c75 r 256 := p210.resolve_left (nst (by kernel_rfl))
 have lhp241 := Num.len (by decide) hp241
 have lhp242 := Num.len (by decide) hp242
 have lhp243 := Num.len (by decide) hp243
 obtain ⟨nr244, A245, n246, c247, nr248, A249, n250, c251, nr252, A253, n254, c255, hv256, hp257, hp258, hp259⟩ : ∃ (nr96 : Bool) (A97 : Option Addr) (n98 : Nat) (c99 : Nat) (nr100 : Bool) (A101 : Option Addr) (n102 : Nat) (c103 : Nat) (nr104 : Bool) (A105 : Option Addr) (n106 : Nat) (c107 : Nat), fr202 18 = .agg #[.bool nr96, .slice A97 n98 c99, .bool nr100, .slice A101 n102 c103, .bool nr104, .slice A105 n106 c107] ∧ Num 64 29 .u64 w201 nr96 A97 n98 c99 xt 256 ∧ Num 64 29 .u64 w201 nr100 A101 n102 c103 yt 256 ∧ Num 64 29 .u64 w201 nr104 A105 n106 c107 ut 256 := p211.resolve_left (nst (by kernel_rfl))
 have lhp257 := Num.len (by decide) hp257
 have lhp258 := Num.len (by decide) hp258
 have lhp259 := Num.len (by decide) hp259
 obtain ⟨⟨b260, hA261, hB262, hC263⟩, ⟨b264, hA265, hB266, hC267⟩, ⟨b268, hA269, hB270, hC271⟩, _⟩ := hM206
 have H272 : w201.heap[b260]? = some (.cells #[.bool nr212, .slice A213 n214 c215, .bool nr216, .slice A217 n218 c219, .bool nr220, .slice A221 n222 c223] 122) := hC263.trans (congrArg (fun v : Value => some (Obj.cells v.cells 122)) hv224)
 have N273 : w.heap.size ≤ b260 := by omega
 have H274 : w201.heap[b264]? = some (.cells #[.bool nr228, .slice A229 n230 c231, .bool nr232, .slice A233 n234 c235, .bool nr236, .slice A237 n238 c239] 122) := hC267.trans (congrArg (fun v : Value => some (Obj.cells v.cells 122)) hv240)
 have N275 : w.heap.size ≤ b264 := by omega
 have : b264 ≠ b260 := fun hh => hN207 _ (.tail _ (.head _)) _ (.head _) (by decide) (hA265.trans ((congrArg (fun q => Value.pointer (some ⟨q, 0, none⟩)) hh).trans hA261.symm))
 have H276 : w201.heap[b268]? = some (.cells #[.bool nr244, .slice A245 n246 c247, .bool nr248, .slice A249 n250 c251, .bool nr252, .slice A253 n254 c255] 122) := hC271.trans (congrArg (fun v : Value => some (Obj.cells v.cells 122)) hv256)
 have N277 : w.heap.size ≤ b268 := by omega
 have : b268 ≠ b260 := fun hh => hN207 _ (.tail _ (.tail _ (.head _))) _ (.head _) (by decide) (hA269.trans ((congrArg (fun q => Value.pointer (some ⟨q, 0, none⟩)) hh).trans hA261.symm))
 have : b268 ≠ b264 := fun hh => hN207 _ (.tail _ (.tail _ (.head _))) _ (.tail _ (.head _)) (by decide) (hA269.trans ((congrArg (fun q => Value.pointer (some ⟨q, 0, none⟩)) hh).trans hA265.symm))
 refine rk_seq ?_
 have H278 := (e203.blk H16)
 have : b1 < w201.heap.size := lt_of_blk H278
 have H279 := (e203.blk H17)
 have : b6 < w201.heap.size := lt_of_blk H279
 have H280 := (e203.blk n13.blk)
 have : b11 < w201.heap.size := lt_of_blk H280
 have : b260 < w201.heap.size := lt_of_blk H272
 have : b264 < w201.heap.size := lt_of_blk H274
 have : b268 < w201.heap.size := lt_of_blk H276
 have : w.heap.size ≤ w201.heap.size := E208.size
 refine rk_par2 [fun vq wq_ => vq = .pointer (some ⟨b264, 2, none⟩), fun vq wq_ => vq = .agg #[.bool nr232, .slice A233 n234 c235], fun vq wq_ => vq = .pointer (some ⟨b268, 4, none⟩), fun vq wq_ => vq = .agg #[.bool nr252, .slice A253 n254 c255], fun vq wq_ => ∃ (nr319 : Bool) (A320 : Option Addr) (n321 : Nat) (c322 : Nat), vq = .agg #[.bool nr319, .slice A320 n321 c322] ∧ Num 64 29 .u64 wq_ nr319 A320 n321 c322 (q * ut) 512, fun vq wq_ => vq = .pointer (some ⟨b268, 2, none⟩), fun vq wq_ => vq = .agg #[.bool nr248, .slice A249 n250 c251], fun vq wq_ => vq = .pointer (some ⟨b264, 4, none⟩), fun vq wq_ => vq = .agg #[.bool nr236, .slice A237 n238 c239], fun vq wq_ => ∃ (nr365 : Bool) (A366 : Option Addr) (n367 : Nat) (c368 : Nat), vq = .agg #[.bool nr365, .slice A366 n367 c368] ∧ Num 64 29 .u64 wq_ nr365 A366 n367 c368 (yt * r) 512, fun vq wq_ => ∃ (nr391 : Bool) (A392 : Option Addr) (n393 : Nat) (c394 : Nat), vq = .agg #[.bool nr391, .slice A392 n393 c394] ∧ Num 64 29 .u64 wq_ nr391 A392 n393 c394 ((q * ut) - (yt * r)) 513, fun vq wq_ => vq = .pointer (some ⟨b260, 0, none⟩), fun vq wq_ => vq = .agg #[.bool nr212, .slice A213 n214 c215], fun vq wq_ => ∃ (nr427 : Bool) (A428 : Option Addr) (n429 : Nat) (c430 : Nat), vq = .agg #[.bool nr427, .slice A428 n429 c430] ∧ Num 64 29 .u64 wq_ nr427 A428 n429 c430 (((q * ut) - (yt * r)) * x) 769, fun _ _ => True, fun _ _ => True] [⟨14, 15, 13, 120, #[.bool false, .slice none 0 0]⟩] [120] mo (by kernel_rfl) (by kernel_rfl) ?_ ?_ ?_ ?_ ?_
 · intro e he e2 he2 h; simp only [List.mem_cons, List.not_mem_nil, or_false] at he he2; rcases he with rfl <;> rcases he2 with rfl <;> first | rfl | exact absurd h (by decide)
 · exact ⟨⟨fun v w w2 e h => h, fun v w w2 b cs T fz s hb hT h => h⟩, ⟨fun v w w2 e h => h, fun v w w2 b cs T fz s hb hT h => h⟩, ⟨fun v w w2 e h => h, fun v w w2 b cs T fz s hb hT h => h⟩, ⟨fun v w w2 e h => h, fun v w w2 b cs T fz s hb hT h => h⟩, ⟨fun v w w2 e ⟨nr319, A320, n321, c322, hv, h0_⟩ => ⟨nr319, A320, n321, c322, hv, h0_.ext e⟩, fun v w w2 b cs T fz s hb hT ⟨nr319, A320, n321, c322, hv, h0_⟩ => ⟨nr319, A320, n321, c322, hv, h0_.st s hb (ts_ne hT (by decide))⟩⟩, ⟨fun v w w2 e h => h, fun v w w2 b cs T fz s hb hT h => h⟩, ⟨fun v w w2 e h => h, fun v w w2 b cs T fz s hb hT h => h⟩, ⟨fun v w w2 e h => h, fun v w w2 b cs T fz s hb hT h => h⟩, ⟨fun v w w2 e h => h, fun v w w2 b cs T fz s hb hT h => h⟩, ⟨fun v w w2 e ⟨nr365, A366, n367, c368, hv, h0_⟩ => ⟨nr365, A366, n367, c368, hv, h0_.ext e⟩, fun v w w2 b cs T fz s hb hT ⟨nr365, A366, n367, c368, hv, h0_⟩ => ⟨nr365, A366, n367, c368, hv, h0_.st s hb (ts_ne hT (by decide))⟩⟩, ⟨fun v w w2 e ⟨nr391, A392, n393, c394, hv, h0_⟩ => ⟨nr391, A392, n393, c394, hv, h0_.ext e⟩, fun v w w2 b cs T fz s hb hT ⟨nr391, A392, n393, c394, hv, h0_⟩ => ⟨nr391, A392, n393, c394, hv, h0_.st s hb (ts_ne hT (by decide))⟩⟩, ⟨fun v w w2 e h => h, fun v w w2 b cs T fz s hb hT h => h⟩, ⟨fun v w w2 e h => h, fun v w w2 b cs T fz s hb hT h => h⟩, ⟨fun v w w2 e ⟨nr427, A428, n429, c430, hv, h0_⟩ => ⟨nr427, A428, n429, c430, hv, h0_.ext e⟩, fun v w w2 b cs T fz s hb hT ⟨nr427, A428, n429, c430, hv, h0_⟩ => ⟨nr427, A428, n429, c430, hv, h0_.st s hb (ts_ne hT (by decide))⟩⟩, ⟨fun v w w2 e h => h, fun v w w2 b cs T fz s hb hT h => h⟩, ⟨fun v w w2 e h => h, fun v w w2 b cs T fz s hb hT h => h⟩, trivial⟩
 · refine ⟨?_, ?_, ?_, ?_, ?_, ?_, ?_, ?_, ?_, ?_, ?_, ?_, ?_, ?_, ?_, ?_, trivial⟩
   · refine .inr ⟨by kernel_rfl, ?_⟩
     intro fr282 w281 e283 hF284 hD285
     have E286 := below_ext E208 E208.size e283
     exact DV.oe (dv_fieldAddr (a := ⟨b264, 0, none⟩) (a' := ⟨b264, 2, none⟩) fo122_1 (T rfl ((hF284 8 (by kernel_rfl)).trans hA265)) rfl) ⟨Below.refl _ _, rfl⟩
   · refine .inr ⟨by kernel_rfl, ?_⟩
     intro fr288 w287 e289 hF290 hD291
     have E292 := below_ext E208 E208.size e289
     have hv293 : fr288 19 = .pointer (some ⟨b264, 2, none⟩) := hD291 0 _ (by kernel_rfl) rfl (by kernel_rfl)
     have H294 := (e289.blk H274)
     exact DV.oe (dv_loads (l := [.bool nr232, .slice A233 n234 c235]) agt120 sz120 (T rfl hv293) H294 rfl) ⟨Below.refl _ _, rfl⟩
   · refine .inr ⟨by kernel_rfl, ?_⟩
     intro fr296 w295 e297 hF298 hD299
     have E300 := below_ext E208 E208.size e297
     exact DV.oe (dv_fieldAddr (a := ⟨b268, 0, none⟩) (a' := ⟨b268, 4, none⟩) fo122_2 (T rfl ((hF298 9 (by kernel_rfl)).trans hA269)) rfl) ⟨Below.refl _ _, rfl⟩
   · refine .inr ⟨by kernel_rfl, ?_⟩
     intro fr302 w301 e303 hF304 hD305
     have E306 := below_ext E208 E208.size e303
     have hv307 : fr302 21 = .pointer (some ⟨b268, 4, none⟩) := hD305 2 _ (by kernel_rfl) rfl (by kernel_rfl)
     have H308 := (e303.blk H276)
     exact DV.oe (dv_loads (l := [.bool nr252, .slice A253 n254 c255]) agt120 sz120 (T rfl hv307) H308 rfl) ⟨Below.refl _ _, rfl⟩
   · refine .inr ⟨by kernel_rfl, ?_⟩
     intro fr310 w309 e311 hF312 hD313
     have E314 := below_ext E208 E208.size e311
     have hv315 : fr310 20 = .agg #[.bool nr232, .slice A233 n234 c235] := hD313 1 _ (by kernel_rfl) rfl (by kernel_rfl)
     have hv316 : fr310 22 = .agg #[.bool nr252, .slice A253 n254 c255] := hD313 3 _ (by kernel_rfl) rfl (by kernel_rfl)
     have h317 := (hp242.ext e311)
     have h318 := (hp259.ext e311)
     refine id (oe_callf (vs := [.agg #[.bool nr232, .slice A233 n234 c235], .agg #[.bool nr252, .slice A253 n254 c255]]) co93 (ar2 (T rfl hv315) (T rfl hv316)) (nby_ok h317 h318 (by first | decide | omega) (by first | decide | omega)) ?_)
     rintro _ w324 ⟨nr319, A320, n321, c322, rfl, e325, h323⟩
     have E326 := below_ext E314 E314.size e325
     have lh323 := Num.len (by decide) h323
     exact ⟨e325, nr319, A320, n321, c322, rfl, h323⟩
   · refine .inr ⟨by kernel_rfl, ?_⟩
     intro fr328 w327 e329 hF330 hD331
     have E332 := below_ext E208 E208.size e329
     exact DV.oe (dv_fieldAddr (a := ⟨b268, 0, none⟩) (a' := ⟨b268, 2, none⟩) fo122_1 (T rfl ((hF330 9 (by kernel_rfl)).trans hA269)) rfl) ⟨Below.refl _ _, rfl⟩
   · refine .inr ⟨by kernel_rfl, ?_⟩
     intro fr334 w333 e335 hF336 hD337
     have E338 := below_ext E208 E208.size e335
     have hv339 : fr334 24 = .pointer (some ⟨b268, 2, none⟩) := hD337 5 _ (by kernel_rfl) rfl (by kernel_rfl)
     have H340 := (e335.blk H276)
     exact DV.oe (dv_loads (l := [.bool nr248, .slice A249 n250 c251]) agt120 sz120 (T rfl hv339) H340 rfl) ⟨Below.refl _ _, rfl⟩
   · refine .inr ⟨by kernel_rfl, ?_⟩
     intro fr342 w341 e343 hF344 hD345
     have E346 := below_ext E208 E208.size e343
     exact DV.oe (dv_fieldAddr (a := ⟨b264, 0, none⟩) (a' := ⟨b264, 4, none⟩) fo122_2 (T rfl ((hF344 8 (by kernel_rfl)).trans hA265)) rfl) ⟨Below.refl _ _, rfl⟩
   · refine .inr ⟨by kernel_rfl, ?_⟩
     intro fr348 w347 e349 hF350 hD351
     have E352 := below_ext E208 E208.size e349
     have hv353 : fr348 26 = .pointer (some ⟨b264, 4, none⟩) := hD351 7 _ (by kernel_rfl) rfl (by kernel_rfl)
     have H354 := (e349.blk H274)
     exact DV.oe (dv_loads (l := [.bool nr236, .slice A237 n238 c239]) agt120 sz120 (T rfl hv353) H354 rfl) ⟨Below.refl _ _, rfl⟩
   · refine .inr ⟨by kernel_rfl, ?_⟩
     intro fr356 w355 e357 hF358 hD359
     have E360 := below_ext E208 E208.size e357
     have hv361 : fr356 25 = .agg #[.bool nr248, .slice A249 n250 c251] := hD359 6 _ (by kernel_rfl) rfl (by kernel_rfl)
     have hv362 : fr356 27 = .agg #[.bool nr236, .slice A237 n238 c239] := hD359 8 _ (by kernel_rfl) rfl (by kernel_rfl)
     have h363 := (hp258.ext e357)
     have h364 := (hp243.ext e357)
     refine id (oe_callf (vs := [.agg #[.bool nr248, .slice A249 n250 c251], .agg #[.bool nr236, .slice A237 n238 c239]]) co93 (ar2 (T rfl hv361) (T rfl hv362)) (nby_ok h363 h364 (by first | decide | omega) (by first | decide | omega)) ?_)
     rintro _ w370 ⟨nr365, A366, n367, c368, rfl, e371, h369⟩
     have E372 := below_ext E360 E360.size e371
     have lh369 := Num.len (by decide) h369
     exact ⟨e371, nr365, A366, n367, c368, rfl, h369⟩
   · refine .inr ⟨by kernel_rfl, ?_⟩
     intro fr374 w373 e375 hF376 hD377
     have E378 := below_ext E208 E208.size e375
     obtain ⟨nr379, A380, n381, c382, hv383, hp384⟩ : ∃ (nr319 : Bool) (A320 : Option Addr) (n321 : Nat) (c322 : Nat), fr374 23 = .agg #[.bool nr319, .slice A320 n321 c322] ∧ Num 64 29 .u64 w373 nr319 A320 n321 c322 (q * ut) 512 := hD377 4 _ (by kernel_rfl) rfl (by kernel_rfl)
     have lhp384 := Num.len (by decide) hp384
     obtain ⟨nr385, A386, n387, c388, hv389, hp390⟩ : ∃ (nr365 : Bool) (A366 : Option Addr) (n367 : Nat) (c368 : Nat), fr374 28 = .agg #[.bool nr365, .slice A366 n367 c368] ∧ Num 64 29 .u64 w373 nr365 A366 n367 c368 (yt * r) 512 := hD377 9 _ (by kernel_rfl) rfl (by kernel_rfl)
     have lhp390 := Num.len (by decide) hp390
     refine id (oe_callf (vs := [.agg #[.bool nr379, .slice A380 n381 c382], .agg #[.bool nr385, .slice A386 n387 c388]]) co107 (ar2 (T rfl hv383) (T rfl hv389)) (less_ok hp384 hp390 (by first | decide | omega) (by first | decide | omega)) ?_)
     rintro _ w396 ⟨nr391, A392, n393, c394, rfl, e397, h395⟩
     have E398 := below_ext E378 E378.size e397
     have lh395 := Num.len (by decide) h395
     exact ⟨e397, nr391, A392, n393, c394, rfl, h395⟩
   · refine .inr ⟨by kernel_rfl, ?_⟩
     intro fr400 w399 e401 hF402 hD403
     have E404 := below_ext E208 E208.size e401
     exact DV.oe (dv_fieldAddr (a := ⟨b260, 0, none⟩) (a' := ⟨b260, 0, none⟩) fo122_0 (T rfl ((hF402 7 (by kernel_rfl)).trans hA261)) rfl) ⟨Below.refl _ _, rfl⟩
   · refine .inr ⟨by kernel_rfl, ?_⟩
     intro fr406 w405 e407 hF408 hD409
     have E410 := below_ext E208 E208.size e407
     have hv411 : fr406 30 = .pointer (some ⟨b260, 0, none⟩) := hD409 11 _ (by kernel_rfl) rfl (by kernel_rfl)
     have H412 := (e407.blk H272)
     exact DV.oe (dv_loads (l := [.bool nr212, .slice A213 n214 c215]) agt120 sz120 (T rfl hv411) H412 rfl) ⟨Below.refl _ _, rfl⟩
   · refine .inr ⟨by kernel_rfl, ?_⟩
     intro fr414 w413 e415 hF416 hD417
     have E418 := below_ext E208 E208.size e415
     obtain ⟨nr419, A420, n421, c422, hv423, hp424⟩ : ∃ (nr391 : Bool) (A392 : Option Addr) (n393 : Nat) (c394 : Nat), fr414 29 = .agg #[.bool nr391, .slice A392 n393 c394] ∧ Num 64 29 .u64 w413 nr391 A392 n393 c394 ((q * ut) - (yt * r)) 513 := hD417 10 _ (by kernel_rfl) rfl (by kernel_rfl)
     have lhp424 := Num.len (by decide) hp424
     have hv425 : fr414 31 = .agg #[.bool nr212, .slice A213 n214 c215] := hD417 12 _ (by kernel_rfl) rfl (by kernel_rfl)
     have h426 := (hp225.ext e415)
     refine id (oe_callf (vs := [.agg #[.bool nr419, .slice A420 n421 c422], .agg #[.bool nr212, .slice A213 n214 c215]]) co93 (ar2 (T rfl hv423) (T rfl hv425)) (nby_ok hp424 h426 (by first | decide | omega) (by first | decide | omega)) ?_)
     rintro _ w432 ⟨nr427, A428, n429, c430, rfl, e433, h431⟩
     have E434 := below_ext E418 E418.size e433
     have lh431 := Num.len (by decide) h431
     exact ⟨e433, nr427, A428, n429, c430, rfl, h431⟩
   · exact .inl (.inr ⟨by kernel_rfl, fun _ _ => trivial⟩)
   · exact .inl (.inl (by kernel_rfl))
 · refine ⟨⟨⟨_, rfl, fun _ _ => oe_alloc ze120 fun b w hn => ⟨b, rfl, hn⟩⟩, ⟨_, rfl, ?_⟩⟩, trivial⟩
   · intro fr436 w435 b440 e437 hF438 hD439 hA441 hB442
     have E443 := below_ext E208 E208.size e437
     obtain ⟨nr444, A445, n446, c447, hv448, hp449⟩ : ∃ (nr427 : Bool) (A428 : Option Addr) (n429 : Nat) (c430 : Nat), fr436 32 = .agg #[.bool nr427, .slice A428 n429 c430] ∧ Num 64 29 .u64 w435 nr427 A428 n429 c430 (((q * ut) - (yt * r)) * x) 769 := hD439 13 _ (by kernel_rfl) rfl (by kernel_rfl)
     have lhp449 := Num.len (by decide) hp449
     refine id (oe_store (v := .agg #[.bool nr444, .slice A445 n446 c447]) (vs := [.bool nr444, .slice A445 n446 c447]) (l := [.bool nr444, .slice A445 n446 c447]) (T rfl hA441) (T rfl hv448) sz120 rfl rfl rfl hB442 rfl ?_)
     intro w450 s451 H452
     exact ⟨s451, H452.trans (congrArg (fun v : Value => some (Obj.cells v.cells 120)) (show fr436 32 = _ from hv448).symm)⟩
 intro fr455 w454 e456 hF457 hP458 hM459 hN460
 have E461 := below_ext E208 E208.size e456
 obtain ⟨_, _, _, _, _, _, _, _, _, _, _, _, _, p462, _, _, _⟩ := hP458
 obtain ⟨nr463, A464, n465, c466, hv467, hp468⟩ : ∃ (nr427 : Bool) (A428 : Option Addr) (n429 : Nat) (c430 : Nat), fr455 32 = .agg #[.bool nr427, .slice A428 n429 c430] ∧ Num 64 29 .u64 w454 nr427 A428 n429 c430 (((q * ut) - (yt * r)) * x) 769 := p462.resolve_left (nst (by kernel_rfl))
 have lhp468 := Num.len (by decide) hp468
 obtain ⟨⟨b469, hA470, hB471, hC472⟩, _⟩ := hM459
 have H473 : w454.heap[b469]? = some (.cells #[.bool nr463, .slice A464 n465 c466] 120) := hC472.trans (congrArg (fun v : Value => some (Obj.cells v.cells 120)) hv467)
 have N474 : w.heap.size ≤ b469 := by omega
 refine rk_seq ?_
 have H475 := (e456.blk H278)
 have : b1 < w454.heap.size := lt_of_blk H475
 have H476 := (e456.blk H279)
 have : b6 < w454.heap.size := lt_of_blk H476
 have H477 := (e456.blk H280)
 have : b11 < w454.heap.size := lt_of_blk H477
 have H478 := (e456.blk H272)
 have : b260 < w454.heap.size := lt_of_blk H478
 have H479 := (e456.blk H274)
 have : b264 < w454.heap.size := lt_of_blk H479
 have H480 := (e456.blk H276)
 have : b268 < w454.heap.size := lt_of_blk H480
 have : b469 < w454.heap.size := lt_of_blk H473
 have : w.heap.size ≤ w454.heap.size := E461.size
 refine rk_par2 [fun vq wq_ => vq = .pointer (some ⟨b264, 4, none⟩), fun vq wq_ => vq = .agg #[.bool nr236, .slice A237 n238 c239], fun vq wq_ => vq = .pointer (some ⟨b268, 0, none⟩), fun vq wq_ => vq = .agg #[.bool nr244, .slice A245 n246 c247], fun vq wq_ => ∃ (nr519 : Bool) (A520 : Option Addr) (n521 : Nat) (c522 : Nat), vq = .agg #[.bool nr519, .slice A520 n521 c522] ∧ Num 64 29 .u64 wq_ nr519 A520 n521 c522 (r * xt) 512, fun vq wq_ => vq = .pointer (some ⟨b268, 4, none⟩), fun vq wq_ => vq = .agg #[.bool nr252, .slice A253 n254 c255], fun vq wq_ => vq = .pointer (some ⟨b264, 0, none⟩), fun vq wq_ => vq = .agg #[.bool nr228, .slice A229 n230 c231], fun vq wq_ => ∃ (nr565 : Bool) (A566 : Option Addr) (n567 : Nat) (c568 : Nat), vq = .agg #[.bool nr565, .slice A566 n567 c568] ∧ Num 64 29 .u64 wq_ nr565 A566 n567 c568 (ut * p) 512, fun vq wq_ => ∃ (nr591 : Bool) (A592 : Option Addr) (n593 : Nat) (c594 : Nat), vq = .agg #[.bool nr591, .slice A592 n593 c594] ∧ Num 64 29 .u64 wq_ nr591 A592 n593 c594 ((r * xt) - (ut * p)) 513, fun vq wq_ => vq = .pointer (some ⟨b260, 2, none⟩), fun vq wq_ => vq = .agg #[.bool nr216, .slice A217 n218 c219], fun vq wq_ => ∃ (nr627 : Bool) (A628 : Option Addr) (n629 : Nat) (c630 : Nat), vq = .agg #[.bool nr627, .slice A628 n629 c630] ∧ Num 64 29 .u64 wq_ nr627 A628 n629 c630 (((r * xt) - (ut * p)) * y) 769, fun _ _ => True, fun _ _ => True] [⟨14, 15, 13, 120, #[.bool false, .slice none 0 0]⟩] [120] mo (by kernel_rfl) (by kernel_rfl) ?_ ?_ ?_ ?_ ?_
 · intro e he e2 he2 h; simp only [List.mem_cons, List.not_mem_nil, or_false] at he he2; rcases he with rfl <;> rcases he2 with rfl <;> first | rfl | exact absurd h (by decide)
 · exact ⟨⟨fun v w w2 e h => h, fun v w w2 b cs T fz s hb hT h => h⟩, ⟨fun v w w2 e h => h, fun v w w2 b cs T fz s hb hT h => h⟩, ⟨fun v w w2 e h => h, fun v w w2 b cs T fz s hb hT h => h⟩, ⟨fun v w w2 e h => h, fun v w w2 b cs T fz s hb hT h => h⟩, ⟨fun v w w2 e ⟨nr519, A520, n521, c522, hv, h0_⟩ => ⟨nr519, A520, n521, c522, hv, h0_.ext e⟩, fun v w w2 b cs T fz s hb hT ⟨nr519, A520, n521, c522, hv, h0_⟩ => ⟨nr519, A520, n521, c522, hv, h0_.st s hb (ts_ne hT (by decide))⟩⟩, ⟨fun v w w2 e h => h, fun v w w2 b cs T fz s hb hT h => h⟩, ⟨fun v w w2 e h => h, fun v w w2 b cs T fz s hb hT h => h⟩, ⟨fun v w w2 e h => h, fun v w w2 b cs T fz s hb hT h => h⟩, ⟨fun v w w2 e h => h, fun v w w2 b cs T fz s hb hT h => h⟩, ⟨fun v w w2 e ⟨nr565, A566, n567, c568, hv, h0_⟩ => ⟨nr565, A566, n567, c568, hv, h0_.ext e⟩, fun v w w2 b cs T fz s hb hT ⟨nr565, A566, n567, c568, hv, h0_⟩ => ⟨nr565, A566, n567, c568, hv, h0_.st s hb (ts_ne hT (by decide))⟩⟩, ⟨fun v w w2 e ⟨nr591, A592, n593, c594, hv, h0_⟩ => ⟨nr591, A592, n593, c594, hv, h0_.ext e⟩, fun v w w2 b cs T fz s hb hT ⟨nr591, A592, n593, c594, hv, h0_⟩ => ⟨nr591, A592, n593, c594, hv, h0_.st s hb (ts_ne hT (by decide))⟩⟩, ⟨fun v w w2 e h => h, fun v w w2 b cs T fz s hb hT h => h⟩, ⟨fun v w w2 e h => h, fun v w w2 b cs T fz s hb hT h => h⟩, ⟨fun v w w2 e ⟨nr627, A628, n629, c630, hv, h0_⟩ => ⟨nr627, A628, n629, c630, hv, h0_.ext e⟩, fun v w w2 b cs T fz s hb hT ⟨nr627, A628, n629, c630, hv, h0_⟩ => ⟨nr627, A628, n629, c630, hv, h0_.st s hb (ts_ne hT (by decide))⟩⟩, ⟨fun v w w2 e h => h, fun v w w2 b cs T fz s hb hT h => h⟩, ⟨fun v w w2 e h => h, fun v w w2 b cs T fz s hb hT h => h⟩, trivial⟩
 · refine ⟨?_, ?_, ?_, ?_, ?_, ?_, ?_, ?_, ?_, ?_, ?_, ?_, ?_, ?_, ?_, ?_, trivial⟩
   · refine .inr ⟨by kernel_rfl, ?_⟩
     intro fr482 w481 e483 hF484 hD485
     have E486 := below_ext E461 E461.size e483
     exact DV.oe (dv_fieldAddr (a := ⟨b264, 0, none⟩) (a' := ⟨b264, 4, none⟩) fo122_2 (T rfl ((hF484 8 (by kernel_rfl)).trans ((hF457 8 rfl).trans hA265))) rfl) ⟨Below.refl _ _, rfl⟩
   · refine .inr ⟨by kernel_rfl, ?_⟩
     intro fr488 w487 e489 hF490 hD491
     have E492 := below_ext E461 E461.size e489
     have hv493 : fr488 33 = .pointer (some ⟨b264, 4, none⟩) := hD491 0 _ (by kernel_rfl) rfl (by kernel_rfl)
     have H494 := (e489.blk H479)
     exact DV.oe (dv_loads (l := [.bool nr236, .slice A237 n238 c239]) agt120 sz120 (T rfl hv493) H494 rfl) ⟨Below.refl _ _, rfl⟩
   · refine .inr ⟨by kernel_rfl, ?_⟩
     intro fr496 w495 e497 hF498 hD499
     have E500 := below_ext E461 E461.size e497
     exact DV.oe (dv_fieldAddr (a := ⟨b268, 0, none⟩) (a' := ⟨b268, 0, none⟩) fo122_0 (T rfl ((hF498 9 (by kernel_rfl)).trans ((hF457 9 rfl).trans hA269))) rfl) ⟨Below.refl _ _, rfl⟩
   · refine .inr ⟨by kernel_rfl, ?_⟩
     intro fr502 w501 e503 hF504 hD505
     have E506 := below_ext E461 E461.size e503
     have hv507 : fr502 35 = .pointer (some ⟨b268, 0, none⟩) := hD505 2 _ (by kernel_rfl) rfl (by kernel_rfl)
     have H508 := (e503.blk H480)
     exact DV.oe (dv_loads (l := [.bool nr244, .slice A245 n246 c247]) agt120 sz120 (T rfl hv507) H508 rfl) ⟨Below.refl _ _, rfl⟩
   · refine .inr ⟨by kernel_rfl, ?_⟩
     intro fr510 w509 e511 hF512 hD513
     have E514 := below_ext E461 E461.size e511
     have hv515 : fr510 34 = .agg #[.bool nr236, .slice A237 n238 c239] := hD513 1 _ (by kernel_rfl) rfl (by kernel_rfl)
     have hv516 : fr510 36 = .agg #[.bool nr244, .slice A245 n246 c247] := hD513 3 _ (by kernel_rfl) rfl (by kernel_rfl)
     have h517 := ((hp243.ext e456).ext e511)
     have h518 := ((hp257.ext e456).ext e511)
     refine id (oe_callf (vs := [.agg #[.bool nr236, .slice A237 n238 c239], .agg #[.bool nr244, .slice A245 n246 c247]]) co93 (ar2 (T rfl hv515) (T rfl hv516)) (nby_ok h517 h518 (by first | decide | omega) (by first | decide | omega)) ?_)
     rintro _ w524 ⟨nr519, A520, n521, c522, rfl, e525, h523⟩
     have E526 := below_ext E514 E514.size e525
     have lh523 := Num.len (by decide) h523
     exact ⟨e525, nr519, A520, n521, c522, rfl, h523⟩
   · refine .inr ⟨by kernel_rfl, ?_⟩
     intro fr528 w527 e529 hF530 hD531
     have E532 := below_ext E461 E461.size e529
     exact DV.oe (dv_fieldAddr (a := ⟨b268, 0, none⟩) (a' := ⟨b268, 4, none⟩) fo122_2 (T rfl ((hF530 9 (by kernel_rfl)).trans ((hF457 9 rfl).trans hA269))) rfl) ⟨Below.refl _ _, rfl⟩
   · refine .inr ⟨by kernel_rfl, ?_⟩
     intro fr534 w533 e535 hF536 hD537
     have E538 := below_ext E461 E461.size e535
     have hv539 : fr534 38 = .pointer (some ⟨b268, 4, none⟩) := hD537 5 _ (by kernel_rfl) rfl (by kernel_rfl)
     have H540 := (e535.blk H480)
     exact DV.oe (dv_loads (l := [.bool nr252, .slice A253 n254 c255]) agt120 sz120 (T rfl hv539) H540 rfl) ⟨Below.refl _ _, rfl⟩
   · refine .inr ⟨by kernel_rfl, ?_⟩
     intro fr542 w541 e543 hF544 hD545
     have E546 := below_ext E461 E461.size e543
     exact DV.oe (dv_fieldAddr (a := ⟨b264, 0, none⟩) (a' := ⟨b264, 0, none⟩) fo122_0 (T rfl ((hF544 8 (by kernel_rfl)).trans ((hF457 8 rfl).trans hA265))) rfl) ⟨Below.refl _ _, rfl⟩
   · refine .inr ⟨by kernel_rfl, ?_⟩
     intro fr548 w547 e549 hF550 hD551
     have E552 := below_ext E461 E461.size e549
     have hv553 : fr548 40 = .pointer (some ⟨b264, 0, none⟩) := hD551 7 _ (by kernel_rfl) rfl (by kernel_rfl)
     have H554 := (e549.blk H479)
     exact DV.oe (dv_loads (l := [.bool nr228, .slice A229 n230 c231]) agt120 sz120 (T rfl hv553) H554 rfl) ⟨Below.refl _ _, rfl⟩
   · refine .inr ⟨by kernel_rfl, ?_⟩
     intro fr556 w555 e557 hF558 hD559
     have E560 := below_ext E461 E461.size e557
     have hv561 : fr556 39 = .agg #[.bool nr252, .slice A253 n254 c255] := hD559 6 _ (by kernel_rfl) rfl (by kernel_rfl)
     have hv562 : fr556 41 = .agg #[.bool nr228, .slice A229 n230 c231] := hD559 8 _ (by kernel_rfl) rfl (by kernel_rfl)
     have h563 := ((hp259.ext e456).ext e557)
     have h564 := ((hp241.ext e456).ext e557)
     refine id (oe_callf (vs := [.agg #[.bool nr252, .slice A253 n254 c255], .agg #[.bool nr228, .slice A229 n230 c231]]) co93 (ar2 (T rfl hv561) (T rfl hv562)) (nby_ok h563 h564 (by first | decide | omega) (by first | decide | omega)) ?_)
     rintro _ w570 ⟨nr565, A566, n567, c568, rfl, e571, h569⟩
     have E572 := below_ext E560 E560.size e571
     have lh569 := Num.len (by decide) h569
     exact ⟨e571, nr565, A566, n567, c568, rfl, h569⟩
   · refine .inr ⟨by kernel_rfl, ?_⟩
     intro fr574 w573 e575 hF576 hD577
     have E578 := below_ext E461 E461.size e575
     obtain ⟨nr579, A580, n581, c582, hv583, hp584⟩ : ∃ (nr519 : Bool) (A520 : Option Addr) (n521 : Nat) (c522 : Nat), fr574 37 = .agg #[.bool nr519, .slice A520 n521 c522] ∧ Num 64 29 .u64 w573 nr519 A520 n521 c522 (r * xt) 512 := hD577 4 _ (by kernel_rfl) rfl (by kernel_rfl)
     have lhp584 := Num.len (by decide) hp584
     obtain ⟨nr585, A586, n587, c588, hv589, hp590⟩ : ∃ (nr565 : Bool) (A566 : Option Addr) (n567 : Nat) (c568 : Nat), fr574 42 = .agg #[.bool nr565, .slice A566 n567 c568] ∧ Num 64 29 .u64 w573 nr565 A566 n567 c568 (ut * p) 512 := hD577 9 _ (by kernel_rfl) rfl (by kernel_rfl)
     have lhp590 := Num.len (by decide) hp590
     refine id (oe_callf (vs := [.agg #[.bool nr579, .slice A580 n581 c582], .agg #[.bool nr585, .slice A586 n587 c588]]) co107 (ar2 (T rfl hv583) (T rfl hv589)) (less_ok hp584 hp590 (by first | decide | omega) (by first | decide | omega)) ?_)
     rintro _ w596 ⟨nr591, A592, n593, c594, rfl, e597, h595⟩
     have E598 := below_ext E578 E578.size e597
     have lh595 := Num.len (by decide) h595
     exact ⟨e597, nr591, A592, n593, c594, rfl, h595⟩
   · refine .inr ⟨by kernel_rfl, ?_⟩
     intro fr600 w599 e601 hF602 hD603
     have E604 := below_ext E461 E461.size e601
     exact DV.oe (dv_fieldAddr (a := ⟨b260, 0, none⟩) (a' := ⟨b260, 2, none⟩) fo122_1 (T rfl ((hF602 7 (by kernel_rfl)).trans ((hF457 7 rfl).trans hA261))) rfl) ⟨Below.refl _ _, rfl⟩
   · refine .inr ⟨by kernel_rfl, ?_⟩
     intro fr606 w605 e607 hF608 hD609
     have E610 := below_ext E461 E461.size e607
     have hv611 : fr606 44 = .pointer (some ⟨b260, 2, none⟩) := hD609 11 _ (by kernel_rfl) rfl (by kernel_rfl)
     have H612 := (e607.blk H478)
     exact DV.oe (dv_loads (l := [.bool nr216, .slice A217 n218 c219]) agt120 sz120 (T rfl hv611) H612 rfl) ⟨Below.refl _ _, rfl⟩
   · refine .inr ⟨by kernel_rfl, ?_⟩
     intro fr614 w613 e615 hF616 hD617
     have E618 := below_ext E461 E461.size e615
     obtain ⟨nr619, A620, n621, c622, hv623, hp624⟩ : ∃ (nr591 : Bool) (A592 : Option Addr) (n593 : Nat) (c594 : Nat), fr614 43 = .agg #[.bool nr591, .slice A592 n593 c594] ∧ Num 64 29 .u64 w613 nr591 A592 n593 c594 ((r * xt) - (ut * p)) 513 := hD617 10 _ (by kernel_rfl) rfl (by kernel_rfl)
     have lhp624 := Num.len (by decide) hp624
     have hv625 : fr614 45 = .agg #[.bool nr216, .slice A217 n218 c219] := hD617 12 _ (by kernel_rfl) rfl (by kernel_rfl)
     have h626 := ((hp226.ext e456).ext e615)
     refine id (oe_callf (vs := [.agg #[.bool nr619, .slice A620 n621 c622], .agg #[.bool nr216, .slice A217 n218 c219]]) co93 (ar2 (T rfl hv623) (T rfl hv625)) (nby_ok hp624 h626 (by first | decide | omega) (by first | decide | omega)) ?_)
     rintro _ w632 ⟨nr627, A628, n629, c630, rfl, e633, h631⟩
     have E634 := below_ext E618 E618.size e633
     have lh631 := Num.len (by decide) h631
     exact ⟨e633, nr627, A628, n629, c630, rfl, h631⟩
   · exact .inl (.inr ⟨by kernel_rfl, fun _ _ => trivial⟩)
   · exact .inl (.inl (by kernel_rfl))
 · refine ⟨⟨⟨_, rfl, fun _ _ => oe_alloc ze120 fun b w hn => ⟨b, rfl, hn⟩⟩, ⟨_, rfl, ?_⟩⟩, trivial⟩
   · intro fr636 w635 b640 e637 hF638 hD639 hA641 hB642
     have E643 := below_ext E461 E461.size e637
     obtain ⟨nr644, A645, n646, c647, hv648, hp649⟩ : ∃ (nr627 : Bool) (A628 : Option Addr) (n629 : Nat) (c630 : Nat), fr636 46 = .agg #[.bool nr627, .slice A628 n629 c630] ∧ Num 64 29 .u64 w635 nr627 A628 n629 c630 (((r * xt) - (ut * p)) * y) 769 := hD639 13 _ (by kernel_rfl) rfl (by kernel_rfl)
     have lhp649 := Num.len (by decide) hp649
     refine id (oe_store (v := .agg #[.bool nr644, .slice A645 n646 c647]) (vs := [.bool nr644, .slice A645 n646 c647]) (l := [.bool nr644, .slice A645 n646 c647]) (T rfl hA641) (T rfl hv648) sz120 rfl rfl rfl hB642 rfl ?_)
     intro w650 s651 H652
     exact ⟨s651, H652.trans (congrArg (fun v : Value => some (Obj.cells v.cells 120)) (show fr636 46 = _ from hv648).symm)⟩
 intro fr655 w654 e656 hF657 hP658 hM659 hN660
 have E661 := below_ext E461 E461.size e656
 obtain ⟨_, _, _, _, _, _, _, _, _, _, _, _, _, p662, _, _, _⟩ := hP658
 obtain ⟨nr663, A664, n665, c666, hv667, hp668⟩ : ∃ (nr627 : Bool) (A628 : Option Addr) (n629 : Nat) (c630 : Nat), fr655 46 = .agg #[.bool nr627, .slice A628 n629 c630] ∧ Num 64 29 .u64 w654 nr627 A628 n629 c630 (((r * xt) - (ut * p)) * y) 769 := p662.resolve_left (nst (by kernel_rfl))
 have lhp668 := Num.len (by decide) hp668
 obtain ⟨⟨b669, hA670, hB671, hC672⟩, _⟩ := hM659
 have H673 : w654.heap[b669]? = some (.cells #[.bool nr663, .slice A664 n665 c666] 120) := hC672.trans (congrArg (fun v : Value => some (Obj.cells v.cells 120)) hv667)
 have N674 : w.heap.size ≤ b669 := by omega
 refine rk_seq ?_
 have H675 := (e656.blk H475)
 have : b1 < w654.heap.size := lt_of_blk H675
 have H676 := (e656.blk H476)
 have : b6 < w654.heap.size := lt_of_blk H676
 have H677 := (e656.blk H477)
 have : b11 < w654.heap.size := lt_of_blk H677
 have H678 := (e656.blk H478)
 have : b260 < w654.heap.size := lt_of_blk H678
 have H679 := (e656.blk H479)
 have : b264 < w654.heap.size := lt_of_blk H679
 have H680 := (e656.blk H480)
 have : b268 < w654.heap.size := lt_of_blk H680
 have H681 := (e656.blk H473)
 have : b469 < w654.heap.size := lt_of_blk H681
 have : b669 < w654.heap.size := lt_of_blk H673
 have : w.heap.size ≤ w654.heap.size := E661.size
 refine rk_par2 [fun vq wq_ => vq = .pointer (some ⟨b264, 0, none⟩), fun vq wq_ => vq = .agg #[.bool nr228, .slice A229 n230 c231], fun vq wq_ => vq = .pointer (some ⟨b268, 2, none⟩), fun vq wq_ => vq = .agg #[.bool nr248, .slice A249 n250 c251], fun vq wq_ => ∃ (nr720 : Bool) (A721 : Option Addr) (n722 : Nat) (c723 : Nat), vq = .agg #[.bool nr720, .slice A721 n722 c723] ∧ Num 64 29 .u64 wq_ nr720 A721 n722 c723 (p * yt) 512, fun vq wq_ => vq = .pointer (some ⟨b268, 0, none⟩), fun vq wq_ => vq = .agg #[.bool nr244, .slice A245 n246 c247], fun vq wq_ => vq = .pointer (some ⟨b264, 2, none⟩), fun vq wq_ => vq = .agg #[.bool nr232, .slice A233 n234 c235], fun vq wq_ => ∃ (nr766 : Bool) (A767 : Option Addr) (n768 : Nat) (c769 : Nat), vq = .agg #[.bool nr766, .slice A767 n768 c769] ∧ Num 64 29 .u64 wq_ nr766 A767 n768 c769 (xt * q) 512, fun vq wq_ => ∃ (nr792 : Bool) (A793 : Option Addr) (n794 : Nat) (c795 : Nat), vq = .agg #[.bool nr792, .slice A793 n794 c795] ∧ Num 64 29 .u64 wq_ nr792 A793 n794 c795 ((p * yt) - (xt * q)) 513, fun vq wq_ => vq = .pointer (some ⟨b260, 4, none⟩), fun vq wq_ => vq = .agg #[.bool nr220, .slice A221 n222 c223], fun vq wq_ => ∃ (nr828 : Bool) (A829 : Option Addr) (n830 : Nat) (c831 : Nat), vq = .agg #[.bool nr828, .slice A829 n830 c831] ∧ Num 64 29 .u64 wq_ nr828 A829 n830 c831 (((p * yt) - (xt * q)) * u) 769, fun _ _ => True, fun _ _ => True] [⟨14, 15, 13, 120, #[.bool false, .slice none 0 0]⟩] [120] mo (by kernel_rfl) (by kernel_rfl) ?_ ?_ ?_ ?_ ?_
 · intro e he e2 he2 h; simp only [List.mem_cons, List.not_mem_nil, or_false] at he he2; rcases he with rfl <;> rcases he2 with rfl <;> first | rfl | exact absurd h (by decide)
 · exact ⟨⟨fun v w w2 e h => h, fun v w w2 b cs T fz s hb hT h => h⟩, ⟨fun v w w2 e h => h, fun v w w2 b cs T fz s hb hT h => h⟩, ⟨fun v w w2 e h => h, fun v w w2 b cs T fz s hb hT h => h⟩, ⟨fun v w w2 e h => h, fun v w w2 b cs T fz s hb hT h => h⟩, ⟨fun v w w2 e ⟨nr720, A721, n722, c723, hv, h0_⟩ => ⟨nr720, A721, n722, c723, hv, h0_.ext e⟩, fun v w w2 b cs T fz s hb hT ⟨nr720, A721, n722, c723, hv, h0_⟩ => ⟨nr720, A721, n722, c723, hv, h0_.st s hb (ts_ne hT (by decide))⟩⟩, ⟨fun v w w2 e h => h, fun v w w2 b cs T fz s hb hT h => h⟩, ⟨fun v w w2 e h => h, fun v w w2 b cs T fz s hb hT h => h⟩, ⟨fun v w w2 e h => h, fun v w w2 b cs T fz s hb hT h => h⟩, ⟨fun v w w2 e h => h, fun v w w2 b cs T fz s hb hT h => h⟩, ⟨fun v w w2 e ⟨nr766, A767, n768, c769, hv, h0_⟩ => ⟨nr766, A767, n768, c769, hv, h0_.ext e⟩, fun v w w2 b cs T fz s hb hT ⟨nr766, A767, n768, c769, hv, h0_⟩ => ⟨nr766, A767, n768, c769, hv, h0_.st s hb (ts_ne hT (by decide))⟩⟩, ⟨fun v w w2 e ⟨nr792, A793, n794, c795, hv, h0_⟩ => ⟨nr792, A793, n794, c795, hv, h0_.ext e⟩, fun v w w2 b cs T fz s hb hT ⟨nr792, A793, n794, c795, hv, h0_⟩ => ⟨nr792, A793, n794, c795, hv, h0_.st s hb (ts_ne hT (by decide))⟩⟩, ⟨fun v w w2 e h => h, fun v w w2 b cs T fz s hb hT h => h⟩, ⟨fun v w w2 e h => h, fun v w w2 b cs T fz s hb hT h => h⟩, ⟨fun v w w2 e ⟨nr828, A829, n830, c831, hv, h0_⟩ => ⟨nr828, A829, n830, c831, hv, h0_.ext e⟩, fun v w w2 b cs T fz s hb hT ⟨nr828, A829, n830, c831, hv, h0_⟩ => ⟨nr828, A829, n830, c831, hv, h0_.st s hb (ts_ne hT (by decide))⟩⟩, ⟨fun v w w2 e h => h, fun v w w2 b cs T fz s hb hT h => h⟩, ⟨fun v w w2 e h => h, fun v w w2 b cs T fz s hb hT h => h⟩, trivial⟩
 · refine ⟨?_, ?_, ?_, ?_, ?_, ?_, ?_, ?_, ?_, ?_, ?_, ?_, ?_, ?_, ?_, ?_, trivial⟩
   · refine .inr ⟨by kernel_rfl, ?_⟩
     intro fr683 w682 e684 hF685 hD686
     have E687 := below_ext E661 E661.size e684
     exact DV.oe (dv_fieldAddr (a := ⟨b264, 0, none⟩) (a' := ⟨b264, 0, none⟩) fo122_0 (T rfl ((hF685 8 (by kernel_rfl)).trans ((hF657 8 rfl).trans ((hF457 8 rfl).trans hA265)))) rfl) ⟨Below.refl _ _, rfl⟩
   · refine .inr ⟨by kernel_rfl, ?_⟩
     intro fr689 w688 e690 hF691 hD692
     have E693 := below_ext E661 E661.size e690
     have hv694 : fr689 47 = .pointer (some ⟨b264, 0, none⟩) := hD692 0 _ (by kernel_rfl) rfl (by kernel_rfl)
     have H695 := (e690.blk H679)
     exact DV.oe (dv_loads (l := [.bool nr228, .slice A229 n230 c231]) agt120 sz120 (T rfl hv694) H695 rfl) ⟨Below.refl _ _, rfl⟩
   · refine .inr ⟨by kernel_rfl, ?_⟩
     intro fr697 w696 e698 hF699 hD700
     have E701 := below_ext E661 E661.size e698
     exact DV.oe (dv_fieldAddr (a := ⟨b268, 0, none⟩) (a' := ⟨b268, 2, none⟩) fo122_1 (T rfl ((hF699 9 (by kernel_rfl)).trans ((hF657 9 rfl).trans ((hF457 9 rfl).trans hA269)))) rfl) ⟨Below.refl _ _, rfl⟩
   · refine .inr ⟨by kernel_rfl, ?_⟩
     intro fr703 w702 e704 hF705 hD706
     have E707 := below_ext E661 E661.size e704
     have hv708 : fr703 49 = .pointer (some ⟨b268, 2, none⟩) := hD706 2 _ (by kernel_rfl) rfl (by kernel_rfl)
     have H709 := (e704.blk H680)
     exact DV.oe (dv_loads (l := [.bool nr248, .slice A249 n250 c251]) agt120 sz120 (T rfl hv708) H709 rfl) ⟨Below.refl _ _, rfl⟩
   · refine .inr ⟨by kernel_rfl, ?_⟩
     intro fr711 w710 e712 hF713 hD714
     have E715 := below_ext E661 E661.size e712
     have hv716 : fr711 48 = .agg #[.bool nr228, .slice A229 n230 c231] := hD714 1 _ (by kernel_rfl) rfl (by kernel_rfl)
     have hv717 : fr711 50 = .agg #[.bool nr248, .slice A249 n250 c251] := hD714 3 _ (by kernel_rfl) rfl (by kernel_rfl)
     have h718 := (((hp241.ext e456).ext e656).ext e712)
     have h719 := (((hp258.ext e456).ext e656).ext e712)
     refine id (oe_callf (vs := [.agg #[.bool nr228, .slice A229 n230 c231], .agg #[.bool nr248, .slice A249 n250 c251]]) co93 (ar2 (T rfl hv716) (T rfl hv717)) (nby_ok h718 h719 (by first | decide | omega) (by first | decide | omega)) ?_)
     rintro _ w725 ⟨nr720, A721, n722, c723, rfl, e726, h724⟩
     have E727 := below_ext E715 E715.size e726
     have lh724 := Num.len (by decide) h724
     exact ⟨e726, nr720, A721, n722, c723, rfl, h724⟩
   · refine .inr ⟨by kernel_rfl, ?_⟩
     intro fr729 w728 e730 hF731 hD732
     have E733 := below_ext E661 E661.size e730
     exact DV.oe (dv_fieldAddr (a := ⟨b268, 0, none⟩) (a' := ⟨b268, 0, none⟩) fo122_0 (T rfl ((hF731 9 (by kernel_rfl)).trans ((hF657 9 rfl).trans ((hF457 9 rfl).trans hA269)))) rfl) ⟨Below.refl _ _, rfl⟩
   · refine .inr ⟨by kernel_rfl, ?_⟩
     intro fr735 w734 e736 hF737 hD738
     have E739 := below_ext E661 E661.size e736
     have hv740 : fr735 52 = .pointer (some ⟨b268, 0, none⟩) := hD738 5 _ (by kernel_rfl) rfl (by kernel_rfl)
     have H741 := (e736.blk H680)
     exact DV.oe (dv_loads (l := [.bool nr244, .slice A245 n246 c247]) agt120 sz120 (T rfl hv740) H741 rfl) ⟨Below.refl _ _, rfl⟩
   · refine .inr ⟨by kernel_rfl, ?_⟩
     intro fr743 w742 e744 hF745 hD746
     have E747 := below_ext E661 E661.size e744
     exact DV.oe (dv_fieldAddr (a := ⟨b264, 0, none⟩) (a' := ⟨b264, 2, none⟩) fo122_1 (T rfl ((hF745 8 (by kernel_rfl)).trans ((hF657 8 rfl).trans ((hF457 8 rfl).trans hA265)))) rfl) ⟨Below.refl _ _, rfl⟩
   · refine .inr ⟨by kernel_rfl, ?_⟩
     intro fr749 w748 e750 hF751 hD752
     have E753 := below_ext E661 E661.size e750
     have hv754 : fr749 54 = .pointer (some ⟨b264, 2, none⟩) := hD752 7 _ (by kernel_rfl) rfl (by kernel_rfl)
     have H755 := (e750.blk H679)
     exact DV.oe (dv_loads (l := [.bool nr232, .slice A233 n234 c235]) agt120 sz120 (T rfl hv754) H755 rfl) ⟨Below.refl _ _, rfl⟩
   · refine .inr ⟨by kernel_rfl, ?_⟩
     intro fr757 w756 e758 hF759 hD760
     have E761 := below_ext E661 E661.size e758
     have hv762 : fr757 53 = .agg #[.bool nr244, .slice A245 n246 c247] := hD760 6 _ (by kernel_rfl) rfl (by kernel_rfl)
     have hv763 : fr757 55 = .agg #[.bool nr232, .slice A233 n234 c235] := hD760 8 _ (by kernel_rfl) rfl (by kernel_rfl)
     have h764 := (((hp257.ext e456).ext e656).ext e758)
     have h765 := (((hp242.ext e456).ext e656).ext e758)
     refine id (oe_callf (vs := [.agg #[.bool nr244, .slice A245 n246 c247], .agg #[.bool nr232, .slice A233 n234 c235]]) co93 (ar2 (T rfl hv762) (T rfl hv763)) (nby_ok h764 h765 (by first | decide | omega) (by first | decide | omega)) ?_)
     rintro _ w771 ⟨nr766, A767, n768, c769, rfl, e772, h770⟩
     have E773 := below_ext E761 E761.size e772
     have lh770 := Num.len (by decide) h770
     exact ⟨e772, nr766, A767, n768, c769, rfl, h770⟩
   · refine .inr ⟨by kernel_rfl, ?_⟩
     intro fr775 w774 e776 hF777 hD778
     have E779 := below_ext E661 E661.size e776
     obtain ⟨nr780, A781, n782, c783, hv784, hp785⟩ : ∃ (nr720 : Bool) (A721 : Option Addr) (n722 : Nat) (c723 : Nat), fr775 51 = .agg #[.bool nr720, .slice A721 n722 c723] ∧ Num 64 29 .u64 w774 nr720 A721 n722 c723 (p * yt) 512 := hD778 4 _ (by kernel_rfl) rfl (by kernel_rfl)
     have lhp785 := Num.len (by decide) hp785
     obtain ⟨nr786, A787, n788, c789, hv790, hp791⟩ : ∃ (nr766 : Bool) (A767 : Option Addr) (n768 : Nat) (c769 : Nat), fr775 56 = .agg #[.bool nr766, .slice A767 n768 c769] ∧ Num 64 29 .u64 w774 nr766 A767 n768 c769 (xt * q) 512 := hD778 9 _ (by kernel_rfl) rfl (by kernel_rfl)
     have lhp791 := Num.len (by decide) hp791
     refine id (oe_callf (vs := [.agg #[.bool nr780, .slice A781 n782 c783], .agg #[.bool nr786, .slice A787 n788 c789]]) co107 (ar2 (T rfl hv784) (T rfl hv790)) (less_ok hp785 hp791 (by first | decide | omega) (by first | decide | omega)) ?_)
     rintro _ w797 ⟨nr792, A793, n794, c795, rfl, e798, h796⟩
     have E799 := below_ext E779 E779.size e798
     have lh796 := Num.len (by decide) h796
     exact ⟨e798, nr792, A793, n794, c795, rfl, h796⟩
   · refine .inr ⟨by kernel_rfl, ?_⟩
     intro fr801 w800 e802 hF803 hD804
     have E805 := below_ext E661 E661.size e802
     exact DV.oe (dv_fieldAddr (a := ⟨b260, 0, none⟩) (a' := ⟨b260, 4, none⟩) fo122_2 (T rfl ((hF803 7 (by kernel_rfl)).trans ((hF657 7 rfl).trans ((hF457 7 rfl).trans hA261)))) rfl) ⟨Below.refl _ _, rfl⟩
   · refine .inr ⟨by kernel_rfl, ?_⟩
     intro fr807 w806 e808 hF809 hD810
     have E811 := below_ext E661 E661.size e808
     have hv812 : fr807 58 = .pointer (some ⟨b260, 4, none⟩) := hD810 11 _ (by kernel_rfl) rfl (by kernel_rfl)
     have H813 := (e808.blk H678)
     exact DV.oe (dv_loads (l := [.bool nr220, .slice A221 n222 c223]) agt120 sz120 (T rfl hv812) H813 rfl) ⟨Below.refl _ _, rfl⟩
   · refine .inr ⟨by kernel_rfl, ?_⟩
     intro fr815 w814 e816 hF817 hD818
     have E819 := below_ext E661 E661.size e816
     obtain ⟨nr820, A821, n822, c823, hv824, hp825⟩ : ∃ (nr792 : Bool) (A793 : Option Addr) (n794 : Nat) (c795 : Nat), fr815 57 = .agg #[.bool nr792, .slice A793 n794 c795] ∧ Num 64 29 .u64 w814 nr792 A793 n794 c795 ((p * yt) - (xt * q)) 513 := hD818 10 _ (by kernel_rfl) rfl (by kernel_rfl)
     have lhp825 := Num.len (by decide) hp825
     have hv826 : fr815 59 = .agg #[.bool nr220, .slice A221 n222 c223] := hD818 12 _ (by kernel_rfl) rfl (by kernel_rfl)
     have h827 := (((hp227.ext e456).ext e656).ext e816)
     refine id (oe_callf (vs := [.agg #[.bool nr820, .slice A821 n822 c823], .agg #[.bool nr220, .slice A221 n222 c223]]) co93 (ar2 (T rfl hv824) (T rfl hv826)) (nby_ok hp825 h827 (by first | decide | omega) (by first | decide | omega)) ?_)
     rintro _ w833 ⟨nr828, A829, n830, c831, rfl, e834, h832⟩
     have E835 := below_ext E819 E819.size e834
     have lh832 := Num.len (by decide) h832
     exact ⟨e834, nr828, A829, n830, c831, rfl, h832⟩
   · exact .inl (.inr ⟨by kernel_rfl, fun _ _ => trivial⟩)
   · exact .inl (.inl (by kernel_rfl))
 · refine ⟨⟨⟨_, rfl, fun _ _ => oe_alloc ze120 fun b w hn => ⟨b, rfl, hn⟩⟩, ⟨_, rfl, ?_⟩⟩, trivial⟩
   · intro fr837 w836 b841 e838 hF839 hD840 hA842 hB843
     have E844 := below_ext E661 E661.size e838
     obtain ⟨nr845, A846, n847, c848, hv849, hp850⟩ : ∃ (nr828 : Bool) (A829 : Option Addr) (n830 : Nat) (c831 : Nat), fr837 60 = .agg #[.bool nr828, .slice A829 n830 c831] ∧ Num 64 29 .u64 w836 nr828 A829 n830 c831 (((p * yt) - (xt * q)) * u) 769 := hD840 13 _ (by kernel_rfl) rfl (by kernel_rfl)
     have lhp850 := Num.len (by decide) hp850
     refine id (oe_store (v := .agg #[.bool nr845, .slice A846 n847 c848]) (vs := [.bool nr845, .slice A846 n847 c848]) (l := [.bool nr845, .slice A846 n847 c848]) (T rfl hA842) (T rfl hv849) sz120 rfl rfl rfl hB843 rfl ?_)
     intro w851 s852 H853
     exact ⟨s852, H853.trans (congrArg (fun v : Value => some (Obj.cells v.cells 120)) (show fr837 60 = _ from hv849).symm)⟩
 intro fr856 w855 e857 hF858 hP859 hM860 hN861
 have E862 := below_ext E661 E661.size e857
 obtain ⟨_, _, _, _, _, _, _, _, _, _, _, _, _, p863, _, _, _⟩ := hP859
 obtain ⟨nr864, A865, n866, c867, hv868, hp869⟩ : ∃ (nr828 : Bool) (A829 : Option Addr) (n830 : Nat) (c831 : Nat), fr856 60 = .agg #[.bool nr828, .slice A829 n830 c831] ∧ Num 64 29 .u64 w855 nr828 A829 n830 c831 (((p * yt) - (xt * q)) * u) 769 := p863.resolve_left (nst (by kernel_rfl))
 have lhp869 := Num.len (by decide) hp869
 obtain ⟨⟨b870, hA871, hB872, hC873⟩, _⟩ := hM860
 have H874 : w855.heap[b870]? = some (.cells #[.bool nr864, .slice A865 n866 c867] 120) := hC873.trans (congrArg (fun v : Value => some (Obj.cells v.cells 120)) hv868)
 have N875 : w.heap.size ≤ b870 := by omega
 refine rk_seq ?_
 refine rk_any (fun w => w.heap[b469]? = some (.cells #[.bool nr463, .slice A464 n465 c466] 120) ∧ w.heap[b669]? = some (.cells #[.bool nr663, .slice A664 n665 c666] 120) ∧ w.heap[b870]? = some (.cells #[.bool nr864, .slice A865 n866 c867] 120)) [6] mo ?_
 intro w876 d877
 have E878 := below_ext E862 E862.size d877.ext
 have H879 := (d877.ext.blk (e857.blk H681))
 have H880 := (d877.ext.blk (e857.blk H673))
 have H881 := (d877.ext.blk H874)
 refine aw_load 0 (.agg #[.bool nr463, .slice A464 n465 c466]) rfl (by kernel_rfl) .none ⟨H879, H880, H881⟩ (fun _ s => dv_loads (l := [.bool nr463, .slice A464 n465 c466]) agt120 sz120 (T rfl ((hF858 10 rfl).trans ((hF657 10 rfl).trans hA470))) s.1 rfl) ?_
 refine aw_load 1 (.agg #[.bool nr663, .slice A664 n665 c666]) rfl (by kernel_rfl) .none ⟨H879, H880, H881⟩ (fun _ s => dv_loads (l := [.bool nr663, .slice A664 n665 c666]) agt120 sz120 (T rfl ((hF858 11 rfl).trans hA670)) s.2.1 rfl) ?_
 refine aw_load 3 (.agg #[.bool nr864, .slice A865 n866 c867]) rfl (by kernel_rfl) .none ⟨H879, H880, H881⟩ (fun _ s => dv_loads (l := [.bool nr864, .slice A865 n866 c867]) agt120 sz120 (T rfl hA871) s.2.2 rfl) ?_
 have h882 := (((hp468.ext e656).ext e857).ext d877.ext)
 have h883 := ((hp668.ext e857).ext d877.ext)
 refine aw_one 2 rfl (by kernel_rfl) .none (oe_callf (vs := [.agg #[.bool nr463, .slice A464 n465 c466], .agg #[.bool nr663, .slice A664 n665 c666]]) co101 (ar2 (T rfl rfl) (T rfl rfl)) (plus_ok h882 h883 (by first | decide | omega) (by first | decide | omega)) ?_)
 rintro _ w889 ⟨nr884, A885, n886, c887, rfl, e890, h888⟩
 have E891 := below_ext E878 E878.size e890
 have lh888 := Num.len (by decide) h888
 have H892 := (e890.blk H879)
 have H893 := (e890.blk H880)
 have H894 := (e890.blk H881)
 refine ⟨.inr ⟨H892, H893, H894⟩, ?_⟩
 have h895 := ((hp869.ext d877.ext).ext e890)
 refine aw_one 4 rfl (by kernel_rfl) .none (oe_callf (vs := [.agg #[.bool nr884, .slice A885 n886 c887], .agg #[.bool nr864, .slice A865 n866 c867]]) co101 (ar2 (T rfl rfl) (T rfl rfl)) (plus_ok h888 h895 (by first | decide | omega) (by first | decide | omega)) ?_)
 rintro _ w901 ⟨nr896, A897, n898, c899, rfl, e902, h900⟩
 have E903 := below_ext E891 E891.size e902
 have lh900 := Num.len (by decide) h900
 have H904 := (e902.blk H892)
 have H905 := (e902.blk H893)
 have H906 := (e902.blk H894)
 refine ⟨.inr ⟨H904, H905, H906⟩, ?_⟩
 refine aw_one 5 rfl (by kernel_rfl) .none (oe_callf (vs := [.agg #[.bool nr896, .slice A897 n898 c899]]) co132 (ar1 (T rfl rfl)) (nsign_ok h900 ) ?_)
 rintro _ w907 ⟨rfl, e908⟩
 have E909 := below_ext E903 E903.size e908
 have H910 := (e908.blk H904)
 have H911 := (e908.blk H905)
 have H912 := (e908.blk H906)
 refine ⟨.inr ⟨H910, H911, H912⟩, ?_⟩
 refine aw_last 6 (.int .i64 (sgnI (((((q * ut) - (yt * r)) * x) + (((r * xt) - (ut * p)) * y)) + (((p * yt) - (xt * q)) * u)))) rfl (by kernel_rfl) .none (fun _ => dv_assign (T rfl rfl)) ?_
 refine aw_done (by kernel_rfl) ?_
 refine rk_ret Try.func131 (v := .int .i64 (sgnI (((((q * ut) - (yt * r)) * x) + (((r * xt) - (ut * p)) * y)) + (((p * yt) - (xt * q)) * u)))) (res1 Try.results131 (rv_tmp rfl rfl)) ⟨_, rfl, ?_⟩
 exact ⟨(vi (by exact ori_turn ..)), E909⟩
set_option maxHeartbeats 1000000 in
theorem areP3_ok {w : World} {bl : Nat} {x y u p q r xt yt ut : Int} (fx_ : fits x) (fy_ : fits y) (fu_ : fits u) (fp_ : fits p) (fq_ : fits q) (fr_ : fits r) (fxt_ : fits xt) (fyt_ : fits yt) (fut_ : fits ut) (hL : w.heap[bl]? = some (.cells #[.int .u64 (wv3 x), .int .u64 (wv2 x), .int .u64 (wv1 x), .int .u64 (wv0 x), .int .u64 (wv3 y), .int .u64 (wv2 y), .int .u64 (wv1 y), .int .u64 (wv0 y), .int .u64 (wv3 u), .int .u64 (wv2 u), .int .u64 (wv1 u), .int .u64 (wv0 u), .int .u64 (wv3 p), .int .u64 (wv2 p), .int .u64 (wv1 p), .int .u64 (wv0 p), .int .u64 (wv3 q), .int .u64 (wv2 q), .int .u64 (wv1 q), .int .u64 (wv0 q), .int .u64 (wv3 r), .int .u64 (wv2 r), .int .u64 (wv1 r), .int .u64 (wv0 r), .int .u64 (wv3 xt), .int .u64 (wv2 xt), .int .u64 (wv1 xt), .int .u64 (wv0 xt), .int .u64 (wv3 yt), .int .u64 (wv2 yt), .int .u64 (wv1 yt), .int .u64 (wv0 yt), .int .u64 (wv3 ut), .int .u64 (wv2 ut), .int .u64 (wv1 ut), .int .u64 (wv0 ut)] 37)) : Ct Try.prog 71 [.slice (some ⟨bl, 0, none⟩) 3 3] w fun v w1 => v = .bool (decide (pOk x y u ∧ pOk p q r ∧ pOk xt yt ut)) ∧ Ext w w1 := by
 refine ct_run (n := 15) Try.func71 rfl Try.ntmps71 rfl ?_
 have E0 : Below w.heap.size w w := Below.refl _ _
 refine rk_seq ?_
 refine rk_reg ?_
 refine lw_v (.bool false) (dv_assign C) ?_
 refine lw_nil ?_
 refine rk_seq ?_
 refine rk_seq ?_
 refine rk_reg ?_
 refine lw_v (.slice (some ⟨bl, 0, none⟩) 3 3) (dv_move (T rfl rfl)) ?_
 refine lw_v (.int .i64 3) (dv_len (ad := some ⟨bl, 0, none⟩) (l := 3) (c := 3) us156 (T rfl rfl)) ?_
 refine lw_v (.int .i64 0) (dv_move C) ?_
 refine lw_nil ?_
 refine rk_block ?_
 refine rk_unroll ?_
 refine rk_seq ?_
 refine rk_reg ?_
 refine lw_v (.bool (decide (((0 : Int) < 3 : Prop)))) (dv_lss (a := 0) (b := 3) (T rfl rfl) (T rfl rfl)) ?_
 refine lw_nil ?_
 refine rk_seq ?_
 refine rk_ct (T rfl (rfl)) ?_
 refine rk_skip ?_
 refine rk_seq ?_
 refine rk_block ?_
 refine rk_seq ?_
 refine rk_reg ?_
 refine lw_v (.pointer (some ⟨bl, 0, none⟩)) (dv_indexAddr (a := ⟨bl, 0, none⟩) (a' := ⟨bl, 0, none⟩) (l := 3) (c := 3) (j := 0) us156 sz37 (T rfl rfl) (T rfl rfl) (by decide) (by decide) rfl) ?_
 refine lw_v (.agg #[.int .u64 (wv3 x), .int .u64 (wv2 x), .int .u64 (wv1 x), .int .u64 (wv0 x), .int .u64 (wv3 y), .int .u64 (wv2 y), .int .u64 (wv1 y), .int .u64 (wv0 y), .int .u64 (wv3 u), .int .u64 (wv2 u), .int .u64 (wv1 u), .int .u64 (wv0 u)]) (dv_loads (l := [.int .u64 (wv3 x), .int .u64 (wv2 x), .int .u64 (wv1 x), .int .u64 (wv0 x), .int .u64 (wv3 y), .int .u64 (wv2 y), .int .u64 (wv1 y), .int .u64 (wv0 y), .int .u64 (wv3 u), .int .u64 (wv2 u), .int .u64 (wv1 u), .int .u64 (wv0 u)]) agt37 sz37 (T rfl rfl) hL rfl) ?_
 refine lw_e (oe_alloc ze37 ?_)
 intro b1 w2 n3
 have N4 : w.heap.size ≤ b1 := n3.eq ▸ E0.size
 have : bl < b1 := n3.eq ▸ lt_of_blk hL
 have E5 := below_ext E0 E0.size n3.ext
 refine lw_e (oe_store (v := .agg #[.int .u64 (wv3 x), .int .u64 (wv2 x), .int .u64 (wv1 x), .int .u64 (wv0 x), .int .u64 (wv3 y), .int .u64 (wv2 y), .int .u64 (wv1 y), .int .u64 (wv0 y), .int .u64 (wv3 u), .int .u64 (wv2 u), .int .u64 (wv1 u), .int .u64 (wv0 u)]) (vs := [.int .u64 (wv3 x), .int .u64 (wv2 x), .int .u64 (wv1 x), .int .u64 (wv0 x), .int .u64 (wv3 y), .int .u64 (wv2 y), .int .u64 (wv1 y), .int .u64 (wv0 y), .int .u64 (wv3 u), .int .u64 (wv2 u), .int .u64 (wv1 u), .int .u64 (wv0 u)]) (l := [.int .u64 (wv3 x), .int .u64 (wv2 x), .int .u64 (wv1 x), .int .u64 (wv0 x), .int .u64 (wv3 y), .int .u64 (wv2 y), .int .u64 (wv1 y), .int .u64 (wv0 y), .int .u64 (wv3 u), .int .u64 (wv2 u), .int .u64 (wv1 u), .int .u64 (wv0 u)]) (T rfl rfl) (T rfl rfl) sz37 rfl rfl rfl n3.blk rfl ?_)
 intro w6 s7 H8
 have E9 := below_st E5 N4 s7
 refine lw_nil ?_
 refine rk_seq ?_
 refine rk_reg ?_
 refine lw_v (.agg #[.int .u64 (wv3 x), .int .u64 (wv2 x), .int .u64 (wv1 x), .int .u64 (wv0 x), .int .u64 (wv3 y), .int .u64 (wv2 y), .int .u64 (wv1 y), .int .u64 (wv0 y), .int .u64 (wv3 u), .int .u64 (wv2 u), .int .u64 (wv1 u), .int .u64 (wv0 u)]) (dv_loads (l := [.int .u64 (wv3 x), .int .u64 (wv2 x), .int .u64 (wv1 x), .int .u64 (wv0 x), .int .u64 (wv3 y), .int .u64 (wv2 y), .int .u64 (wv1 y), .int .u64 (wv0 y), .int .u64 (wv3 u), .int .u64 (wv2 u), .int .u64 (wv1 u), .int .u64 (wv0 u)]) agt37 sz37 (T rfl rfl) H8 rfl) ?_
 refine lw_e (oe_callf (vs := [.agg #[.int .u64 (wv3 x), .int .u64 (wv2 x), .int .u64 (wv1 x), .int .u64 (wv0 x), .int .u64 (wv3 y), .int .u64 (wv2 y), .int .u64 (wv1 y), .int .u64 (wv0 y), .int .u64 (wv3 u), .int .u64 (wv2 u), .int .u64 (wv1 u), .int .u64 (wv0 u)]]) co75 (ar1 (T rfl rfl)) (iPointOk_ok (x := x) (y := y) (u := u) fx_ fy_ fu_ ) ?_)
 rintro _ w10 ⟨rfl, e11⟩
 have E12 := below_ext E9 E9.size e11
 refine lw_v (.bool (decide (¬ (pOk x y u)))) (dv_notd (p := pOk x y u) (T rfl rfl)) ?_
 refine lw_nil ?_
 by_cases hb13 : pOk x y u
 · refine rk_cf (T rfl (congrArg Value.bool (decide_eq_false (not_not_intro hb13)))) ?_
   refine rk_skip ?_
   refine rk_inBlock ?_
   refine rk_reg ?_
   refine lw_v (.int .i64 1) (dv_add (a := 0) (b := 1) (z := 1) (T rfl rfl) C (by decide)) ?_
   refine lw_v (.int .i64 1) (dv_move (T rfl rfl)) ?_
   refine lw_nil ?_
   refine rk_inLoop ?_
   refine rk_seq ?_
   refine rk_reg ?_
   refine lw_v (.bool (decide (((1 : Int) < 3 : Prop)))) (dv_lss (a := 1) (b := 3) (T rfl rfl) (T rfl rfl)) ?_
   refine lw_nil ?_
   refine rk_seq ?_
   refine rk_ct (T rfl (rfl)) ?_
   refine rk_skip ?_
   refine rk_seq ?_
   refine rk_block ?_
   refine rk_seq ?_
   refine rk_reg ?_
   refine lw_v (.pointer (some ⟨bl, 12, none⟩)) (dv_indexAddr (a := ⟨bl, 0, none⟩) (a' := ⟨bl, 12, none⟩) (l := 3) (c := 3) (j := 1) us156 sz37 (T rfl rfl) (T rfl rfl) (by decide) (by decide) rfl) ?_
   have H14 := (e11.blk (s7.blk (n3.ext.blk hL) (by omega)))
   refine lw_v (.agg #[.int .u64 (wv3 p), .int .u64 (wv2 p), .int .u64 (wv1 p), .int .u64 (wv0 p), .int .u64 (wv3 q), .int .u64 (wv2 q), .int .u64 (wv1 q), .int .u64 (wv0 q), .int .u64 (wv3 r), .int .u64 (wv2 r), .int .u64 (wv1 r), .int .u64 (wv0 r)]) (dv_loads (l := [.int .u64 (wv3 p), .int .u64 (wv2 p), .int .u64 (wv1 p), .int .u64 (wv0 p), .int .u64 (wv3 q), .int .u64 (wv2 q), .int .u64 (wv1 q), .int .u64 (wv0 q), .int .u64 (wv3 r), .int .u64 (wv2 r), .int .u64 (wv1 r), .int .u64 (wv0 r)]) agt37 sz37 (T rfl rfl) H14 rfl) ?_
   refine lw_e (oe_alloc ze37 ?_)
   intro b15 w16 n17
   have N18 : w.heap.size ≤ b15 := n17.eq ▸ E12.size
   have H19 := (e11.blk H8)
   have : b1 < b15 := n17.eq ▸ lt_of_blk H19
   have E20 := below_ext E12 E12.size n17.ext
   refine lw_e (oe_store (v := .agg #[.int .u64 (wv3 p), .int .u64 (wv2 p), .int .u64 (wv1 p), .int .u64 (wv0 p), .int .u64 (wv3 q), .int .u64 (wv2 q), .int .u64 (wv1 q), .int .u64 (wv0 q), .int .u64 (wv3 r), .int .u64 (wv2 r), .int .u64 (wv1 r), .int .u64 (wv0 r)]) (vs := [.int .u64 (wv3 p), .int .u64 (wv2 p), .int .u64 (wv1 p), .int .u64 (wv0 p), .int .u64 (wv3 q), .int .u64 (wv2 q), .int .u64 (wv1 q), .int .u64 (wv0 q), .int .u64 (wv3 r), .int .u64 (wv2 r), .int .u64 (wv1 r), .int .u64 (wv0 r)]) (l := [.int .u64 (wv3 p), .int .u64 (wv2 p), .int .u64 (wv1 p), .int .u64 (wv0 p), .int .u64 (wv3 q), .int .u64 (wv2 q), .int .u64 (wv1 q), .int .u64 (wv0 q), .int .u64 (wv3 r), .int .u64 (wv2 r), .int .u64 (wv1 r), .int .u64 (wv0 r)]) (T rfl rfl) (T rfl rfl) sz37 rfl rfl rfl n17.blk rfl ?_)
   intro w21 s22 H23
   have E24 := below_st E20 N18 s22
   refine lw_nil ?_
   refine rk_seq ?_
   refine rk_reg ?_
   refine lw_v (.agg #[.int .u64 (wv3 p), .int .u64 (wv2 p), .int .u64 (wv1 p), .int .u64 (wv0 p), .int .u64 (wv3 q), .int .u64 (wv2 q), .int .u64 (wv1 q), .int .u64 (wv0 q), .int .u64 (wv3 r), .int .u64 (wv2 r), .int .u64 (wv1 r), .int .u64 (wv0 r)]) (dv_loads (l := [.int .u64 (wv3 p), .int .u64 (wv2 p), .int .u64 (wv1 p), .int .u64 (wv0 p), .int .u64 (wv3 q), .int .u64 (wv2 q), .int .u64 (wv1 q), .int .u64 (wv0 q), .int .u64 (wv3 r), .int .u64 (wv2 r), .int .u64 (wv1 r), .int .u64 (wv0 r)]) agt37 sz37 (T rfl rfl) H23 rfl) ?_
   refine lw_e (oe_callf (vs := [.agg #[.int .u64 (wv3 p), .int .u64 (wv2 p), .int .u64 (wv1 p), .int .u64 (wv0 p), .int .u64 (wv3 q), .int .u64 (wv2 q), .int .u64 (wv1 q), .int .u64 (wv0 q), .int .u64 (wv3 r), .int .u64 (wv2 r), .int .u64 (wv1 r), .int .u64 (wv0 r)]]) co75 (ar1 (T rfl rfl)) (iPointOk_ok (x := p) (y := q) (u := r) fp_ fq_ fr_ ) ?_)
   rintro _ w25 ⟨rfl, e26⟩
   have E27 := below_ext E24 E24.size e26
   refine lw_v (.bool (decide (¬ (pOk p q r)))) (dv_notd (p := pOk p q r) (T rfl rfl)) ?_
   refine lw_nil ?_
   by_cases hb28 : pOk p q r
   · refine rk_cf (T rfl (congrArg Value.bool (decide_eq_false (not_not_intro hb28)))) ?_
     refine rk_skip ?_
     refine rk_inBlock ?_
     refine rk_reg ?_
     refine lw_v (.int .i64 2) (dv_add (a := 1) (b := 1) (z := 2) (T rfl rfl) C (by decide)) ?_
     refine lw_v (.int .i64 2) (dv_move (T rfl rfl)) ?_
     refine lw_nil ?_
     refine rk_inLoop ?_
     refine rk_seq ?_
     refine rk_reg ?_
     refine lw_v (.bool (decide (((2 : Int) < 3 : Prop)))) (dv_lss (a := 2) (b := 3) (T rfl rfl) (T rfl rfl)) ?_
     refine lw_nil ?_
     refine rk_seq ?_
     refine rk_ct (T rfl (rfl)) ?_
     refine rk_skip ?_
     refine rk_seq ?_
     refine rk_block ?_
     refine rk_seq ?_
     refine rk_reg ?_
     refine lw_v (.pointer (some ⟨bl, 24, none⟩)) (dv_indexAddr (a := ⟨bl, 0, none⟩) (a' := ⟨bl, 24, none⟩) (l := 3) (c := 3) (j := 2) us156 sz37 (T rfl rfl) (T rfl rfl) (by decide) (by decide) rfl) ?_
     have H29 := (e26.blk (s22.blk (n17.ext.blk H14) (by omega)))
     refine lw_v (.agg #[.int .u64 (wv3 xt), .int .u64 (wv2 xt), .int .u64 (wv1 xt), .int .u64 (wv0 xt), .int .u64 (wv3 yt), .int .u64 (wv2 yt), .int .u64 (wv1 yt), .int .u64 (wv0 yt), .int .u64 (wv3 ut), .int .u64 (wv2 ut), .int .u64 (wv1 ut), .int .u64 (wv0 ut)]) (dv_loads (l := [.int .u64 (wv3 xt), .int .u64 (wv2 xt), .int .u64 (wv1 xt), .int .u64 (wv0 xt), .int .u64 (wv3 yt), .int .u64 (wv2 yt), .int .u64 (wv1 yt), .int .u64 (wv0 yt), .int .u64 (wv3 ut), .int .u64 (wv2 ut), .int .u64 (wv1 ut), .int .u64 (wv0 ut)]) agt37 sz37 (T rfl rfl) H29 rfl) ?_
     refine lw_e (oe_alloc ze37 ?_)
     intro b30 w31 n32
     have N33 : w.heap.size ≤ b30 := n32.eq ▸ E27.size
     have H34 := (e26.blk H23)
     have : b15 < b30 := n32.eq ▸ lt_of_blk H34
     have E35 := below_ext E27 E27.size n32.ext
     refine lw_e (oe_store (v := .agg #[.int .u64 (wv3 xt), .int .u64 (wv2 xt), .int .u64 (wv1 xt), .int .u64 (wv0 xt), .int .u64 (wv3 yt), .int .u64 (wv2 yt), .int .u64 (wv1 yt), .int .u64 (wv0 yt), .int .u64 (wv3 ut), .int .u64 (wv2 ut), .int .u64 (wv1 ut), .int .u64 (wv0 ut)]) (vs := [.int .u64 (wv3 xt), .int .u64 (wv2 xt), .int .u64 (wv1 xt), .int .u64 (wv0 xt), .int .u64 (wv3 yt), .int .u64 (wv2 yt), .int .u64 (wv1 yt), .int .u64 (wv0 yt), .int .u64 (wv3 ut), .int .u64 (wv2 ut), .int .u64 (wv1 ut), .int .u64 (wv0 ut)]) (l := [.int .u64 (wv3 xt), .int .u64 (wv2 xt), .int .u64 (wv1 xt), .int .u64 (wv0 xt), .int .u64 (wv3 yt), .int .u64 (wv2 yt), .int .u64 (wv1 yt), .int .u64 (wv0 yt), .int .u64 (wv3 ut), .int .u64 (wv2 ut), .int .u64 (wv1 ut), .int .u64 (wv0 ut)]) (T rfl rfl) (T rfl rfl) sz37 rfl rfl rfl n32.blk rfl ?_)
     intro w36 s37 H38
     have E39 := below_st E35 N33 s37
     refine lw_nil ?_
     refine rk_seq ?_
     refine rk_reg ?_
     refine lw_v (.agg #[.int .u64 (wv3 xt), .int .u64 (wv2 xt), .int .u64 (wv1 xt), .int .u64 (wv0 xt), .int .u64 (wv3 yt), .int .u64 (wv2 yt), .int .u64 (wv1 yt), .int .u64 (wv0 yt), .int .u64 (wv3 ut), .int .u64 (wv2 ut), .int .u64 (wv1 ut), .int .u64 (wv0 ut)]) (dv_loads (l := [.int .u64 (wv3 xt), .int .u64 (wv2 xt), .int .u64 (wv1 xt), .int .u64 (wv0 xt), .int .u64 (wv3 yt), .int .u64 (wv2 yt), .int .u64 (wv1 yt), .int .u64 (wv0 yt), .int .u64 (wv3 ut), .int .u64 (wv2 ut), .int .u64 (wv1 ut), .int .u64 (wv0 ut)]) agt37 sz37 (T rfl rfl) H38 rfl) ?_
     refine lw_e (oe_callf (vs := [.agg #[.int .u64 (wv3 xt), .int .u64 (wv2 xt), .int .u64 (wv1 xt), .int .u64 (wv0 xt), .int .u64 (wv3 yt), .int .u64 (wv2 yt), .int .u64 (wv1 yt), .int .u64 (wv0 yt), .int .u64 (wv3 ut), .int .u64 (wv2 ut), .int .u64 (wv1 ut), .int .u64 (wv0 ut)]]) co75 (ar1 (T rfl rfl)) (iPointOk_ok (x := xt) (y := yt) (u := ut) fxt_ fyt_ fut_ ) ?_)
     rintro _ w40 ⟨rfl, e41⟩
     have E42 := below_ext E39 E39.size e41
     refine lw_v (.bool (decide (¬ (pOk xt yt ut)))) (dv_notd (p := pOk xt yt ut) (T rfl rfl)) ?_
     refine lw_nil ?_
     by_cases hb43 : pOk xt yt ut
     · refine rk_cf (T rfl (congrArg Value.bool (decide_eq_false (not_not_intro hb43)))) ?_
       refine rk_skip ?_
       refine rk_inBlock ?_
       refine rk_reg ?_
       refine lw_v (.int .i64 3) (dv_add (a := 2) (b := 1) (z := 3) (T rfl rfl) C (by decide)) ?_
       refine lw_v (.int .i64 3) (dv_move (T rfl rfl)) ?_
       refine lw_nil ?_
       refine rk_inLoop ?_
       refine rk_seq ?_
       refine rk_reg ?_
       refine lw_v (.bool (decide (((3 : Int) < 3 : Prop)))) (dv_lss (a := 3) (b := 3) (T rfl rfl) (T rfl rfl)) ?_
       refine lw_nil ?_
       refine rk_seq ?_
       refine rk_cf (T rfl (rfl)) ?_
       refine rk_exit rfl ?_
       refine rk_seq ?_
       refine rk_reg ?_
       refine lw_v (.bool true) (dv_assign C) ?_
       refine lw_nil ?_
       refine rk_ret Try.func71 (v := .bool true) (res1 Try.results71 (rv_tmp rfl rfl)) ⟨_, rfl, ?_⟩
       exact ⟨(vt (by first | assumption | exact ⟨(by first | assumption | simpa using ‹_›), (by first | assumption | simpa using ‹_›), (by first | assumption | simpa using ‹_›)⟩)), E42⟩
     · refine rk_ct (T rfl (congrArg Value.bool (decide_eq_true hb43))) ?_
       refine rk_seq ?_
       refine rk_reg ?_
       refine lw_v (.bool false) (dv_assign C) ?_
       refine lw_nil ?_
       refine rk_ret Try.func71 (v := .bool false) (res1 Try.results71 (rv_tmp rfl rfl)) ⟨_, rfl, ?_⟩
       exact ⟨(vf (by first | assumption | (intro hh; first | exact absurd hh (by assumption) | exact absurd hh.1 (by assumption) | exact absurd hh.2 (by assumption) | exact absurd hh.2.1 (by assumption) | exact absurd hh.2.2 (by assumption)))), E42⟩
   · refine rk_ct (T rfl (congrArg Value.bool (decide_eq_true hb28))) ?_
     refine rk_seq ?_
     refine rk_reg ?_
     refine lw_v (.bool false) (dv_assign C) ?_
     refine lw_nil ?_
     refine rk_ret Try.func71 (v := .bool false) (res1 Try.results71 (rv_tmp rfl rfl)) ⟨_, rfl, ?_⟩
     exact ⟨(vf (by first | assumption | (intro hh; first | exact absurd hh (by assumption) | exact absurd hh.1 (by assumption) | exact absurd hh.2 (by assumption) | exact absurd hh.2.1 (by assumption) | exact absurd hh.2.2 (by assumption)))), E27⟩
 · refine rk_ct (T rfl (congrArg Value.bool (decide_eq_true hb13))) ?_
   refine rk_seq ?_
   refine rk_reg ?_
   refine lw_v (.bool false) (dv_assign C) ?_
   refine lw_nil ?_
   refine rk_ret Try.func71 (v := .bool false) (res1 Try.results71 (rv_tmp rfl rfl)) ⟨_, rfl, ?_⟩
   exact ⟨(vf (by first | assumption | (intro hh; first | exact absurd hh (by assumption) | exact absurd hh.1 (by assumption) | exact absurd hh.2 (by assumption) | exact absurd hh.2.1 (by assumption) | exact absurd hh.2.2 (by assumption)))), E12⟩
end Go.Proofs.Ytdanhdbanfpghaa.W
