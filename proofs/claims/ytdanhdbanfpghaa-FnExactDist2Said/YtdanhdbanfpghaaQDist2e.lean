/- Walks and plain mathematics, packed by a program of this session: declarations that the rows reach. -/
import Derived.Test.YtdanhdbanfpghaaQDist2d
set_option linter.unusedVariables false
set_option linter.unusedSimpArgs false
namespace Go.Proofs.Ytdanhdbanfpghaa.W
open Go Go.RowKit Go.Proofs.Ytdanhdbanfpghaa.Fw
attribute [local irreducible] RunK LW AW DV OE Ct
theorem agt102 : aggB Try.prog 102 = some true := by kernel_rfl
theorem agt122 : aggB Try.prog 122 = some true := by kernel_rfl
theorem agt31 : aggB Try.prog 31 = some true := by kernel_rfl
theorem agt37 : aggB Try.prog 37 = some true := by kernel_rfl
theorem co127 : callOk Try.prog 127 = true := by kernel_rfl
theorem co128 : callOk Try.prog 128 = true := by kernel_rfl
theorem co129 : callOk Try.prog 129 = true := by kernel_rfl
theorem co130 : callOk Try.prog 130 = true := by kernel_rfl
theorem co134 : callOk Try.prog 134 = true := by kernel_rfl
theorem co146 : callOk Try.prog 146 = true := by kernel_rfl
theorem co69 : callOk Try.prog 69 = true := by kernel_rfl
theorem co70 : callOk Try.prog 70 = true := by kernel_rfl
theorem co75 : callOk Try.prog 75 = true := by kernel_rfl
theorem co90 : callOk Try.prog 90 = true := by kernel_rfl
theorem co91 : callOk Try.prog 91 = true := by kernel_rfl
theorem co93 : callOk Try.prog 93 = true := by kernel_rfl
theorem co99 : callOk Try.prog 99 = true := by kernel_rfl
theorem fo102_0 : fieldOffB Try.prog 102 0 = some 0 := by kernel_rfl
theorem fo102_1 : fieldOffB Try.prog 102 1 = some 2 := by kernel_rfl
theorem fo102_2 : fieldOffB Try.prog 102 2 = some 4 := by kernel_rfl
theorem fo122_0 : fieldOffB Try.prog 122 0 = some 0 := by kernel_rfl
theorem fo122_1 : fieldOffB Try.prog 122 1 = some 2 := by kernel_rfl
theorem fo122_2 : fieldOffB Try.prog 122 2 = some 4 := by kernel_rfl
theorem fo33_0 : fieldOffB Try.prog 33 0 = some 0 := by kernel_rfl
theorem fo33_1 : fieldOffB Try.prog 33 1 = some 4 := by kernel_rfl
theorem fo33_2 : fieldOffB Try.prog 33 2 = some 8 := by kernel_rfl
theorem fo37_0 : fieldOffB Try.prog 37 0 = some 0 := by kernel_rfl
theorem fo37_1 : fieldOffB Try.prog 37 1 = some 4 := by kernel_rfl
theorem fo37_2 : fieldOffB Try.prog 37 2 = some 8 := by kernel_rfl
theorem pl102 : placesB Try.prog 102 = some [(0, 2), (2, 2), (4, 2)] := by kernel_rfl
theorem pl122 : placesB Try.prog 122 = some [(0, 2), (2, 2), (4, 2)] := by kernel_rfl
theorem sz102 : sizeB Try.prog 102 = some 6 := by kernel_rfl
theorem sz122 : sizeB Try.prog 122 = some 6 := by kernel_rfl
theorem sz31 : sizeB Try.prog 31 = some 4 := by kernel_rfl
theorem sz37 : sizeB Try.prog 37 = some 12 := by kernel_rfl
theorem us156 : Try.prog.underlying 156 = some (.slice 37) := by kernel_rfl
theorem zc102 : zcB Try.prog 102 = some [.bool false, .slice none 0 0, .bool false, .slice none 0 0, .bool false, .slice none 0 0] := by kernel_rfl
theorem zc122 : zcB Try.prog 122 = some [.bool false, .slice none 0 0, .bool false, .slice none 0 0, .bool false, .slice none 0 0] := by kernel_rfl
theorem ze102 : zeroB Try.prog 102 = some #[.bool false, .slice none 0 0, .bool false, .slice none 0 0, .bool false, .slice none 0 0] := by kernel_rfl
theorem ze122 : zeroB Try.prog 122 = some #[.bool false, .slice none 0 0, .bool false, .slice none 0 0, .bool false, .slice none 0 0] := by kernel_rfl
theorem ze37 : zeroB Try.prog 37 = some #[.int .u64 0, .int .u64 0, .int .u64 0, .int .u64 0, .int .u64 0, .int .u64 0, .int .u64 0, .int .u64 0, .int .u64 0, .int .u64 0, .int .u64 0, .int .u64 0] := by kernel_rfl
set_option maxHeartbeats 1000000 in
theorem toPoint_ok {w : World} {x y u : Int}   : Ct Try.prog 21 [.agg #[.int .u64 (wv3 x), .int .u64 (wv2 x), .int .u64 (wv1 x), .int .u64 (wv0 x), .int .u64 (wv3 y), .int .u64 (wv2 y), .int .u64 (wv1 y), .int .u64 (wv0 y), .int .u64 (wv3 u), .int .u64 (wv2 u), .int .u64 (wv1 u), .int .u64 (wv0 u)]] w fun v w1 => v = .agg #[.int .u64 (wv3 x), .int .u64 (wv2 x), .int .u64 (wv1 x), .int .u64 (wv0 x), .int .u64 (wv3 y), .int .u64 (wv2 y), .int .u64 (wv1 y), .int .u64 (wv0 y), .int .u64 (wv3 u), .int .u64 (wv2 u), .int .u64 (wv1 u), .int .u64 (wv0 u)] ∧ Ext w w1 := by
 refine ct_run (n := 17) Try.func21 rfl Try.ntmps21 rfl ?_
 have E0 : Below w.heap.size w w := Below.refl _ _
 refine rk_seq ?_
 refine rk_reg ?_
 refine lw_e (oe_box (v := .agg #[.int .u64 (wv3 x), .int .u64 (wv2 x), .int .u64 (wv1 x), .int .u64 (wv0 x), .int .u64 (wv3 y), .int .u64 (wv2 y), .int .u64 (wv1 y), .int .u64 (wv0 y), .int .u64 (wv3 u), .int .u64 (wv2 u), .int .u64 (wv1 u), .int .u64 (wv0 u)]) (cs := #[.int .u64 (wv3 x), .int .u64 (wv2 x), .int .u64 (wv1 x), .int .u64 (wv0 x), .int .u64 (wv3 y), .int .u64 (wv2 y), .int .u64 (wv1 y), .int .u64 (wv0 y), .int .u64 (wv3 u), .int .u64 (wv2 u), .int .u64 (wv1 u), .int .u64 (wv0 u)]) (T rfl rfl) rfl ?_)
 intro b1 w2 n3
 have N4 : w.heap.size ≤ b1 := n3.eq ▸ E0.size
 have E5 := below_ext E0 E0.size n3.ext
 refine lw_e (oe_alloc ze37 ?_)
 intro b6 w7 n8
 have N9 : w.heap.size ≤ b6 := n8.eq ▸ E5.size
 have : b1 < b6 := n8.eq ▸ lt_of_blk n3.blk
 have E10 := below_ext E5 E5.size n8.ext
 refine lw_nil ?_
 refine rk_seq ?_
 refine rk_reg ?_
 refine lw_e (oe_alloc ze37 ?_)
 intro b11 w12 n13
 have N14 : w.heap.size ≤ b11 := n13.eq ▸ E10.size
 have : b6 < b11 := n13.eq ▸ lt_of_blk n8.blk
 have E15 := below_ext E10 E10.size n13.ext
 refine lw_nil ?_
 refine rk_seq ?_
 refine rk_reg ?_
 refine lw_v (.pointer (some ⟨b1, 0, none⟩)) (dv_fieldAddr (a := ⟨b1, 0, none⟩) (a' := ⟨b1, 0, none⟩) fo33_0 (T rfl rfl) rfl) ?_
 have H16 := (n13.ext.blk (n8.ext.blk n3.blk))
 refine lw_v (.agg #[.int .u64 (wv3 x), .int .u64 (wv2 x), .int .u64 (wv1 x), .int .u64 (wv0 x)]) (dv_loads (l := [.int .u64 (wv3 x), .int .u64 (wv2 x), .int .u64 (wv1 x), .int .u64 (wv0 x)]) agt31 sz31 (T rfl rfl) H16 rfl) ?_
 refine lw_e (oe_callf (vs := [.agg #[.int .u64 (wv3 x), .int .u64 (wv2 x), .int .u64 (wv1 x), .int .u64 (wv0 x)]]) co70 (ar1 (T rfl rfl)) (toWide_ok (z := x)  ) ?_)
 rintro _ w17 ⟨rfl, e18⟩
 have E19 := below_ext E15 E15.size e18
 refine lw_v (.pointer (some ⟨b11, 0, none⟩)) (dv_fieldAddr (a := ⟨b11, 0, none⟩) (a' := ⟨b11, 0, none⟩) fo37_0 (T rfl rfl) rfl) ?_
 have H20 := (e18.blk n13.blk)
 refine lw_e (oe_store (v := .agg #[.int .u64 (wv3 x), .int .u64 (wv2 x), .int .u64 (wv1 x), .int .u64 (wv0 x)]) (vs := [.int .u64 (wv3 x), .int .u64 (wv2 x), .int .u64 (wv1 x), .int .u64 (wv0 x)]) (l := [.int .u64 (wv3 x), .int .u64 (wv2 x), .int .u64 (wv1 x), .int .u64 (wv0 x), .int .u64 0, .int .u64 0, .int .u64 0, .int .u64 0, .int .u64 0, .int .u64 0, .int .u64 0, .int .u64 0]) (T rfl rfl) (T rfl rfl) sz35 rfl rfl rfl H20 rfl ?_)
 intro w21 s22 H23
 have E24 := below_st E19 N14 s22
 refine lw_nil ?_
 refine rk_seq ?_
 refine rk_reg ?_
 refine lw_v (.pointer (some ⟨b1, 4, none⟩)) (dv_fieldAddr (a := ⟨b1, 0, none⟩) (a' := ⟨b1, 4, none⟩) fo33_1 (T rfl rfl) rfl) ?_
 have H25 := (s22.blk (e18.blk H16) (by omega))
 refine lw_v (.agg #[.int .u64 (wv3 y), .int .u64 (wv2 y), .int .u64 (wv1 y), .int .u64 (wv0 y)]) (dv_loads (l := [.int .u64 (wv3 y), .int .u64 (wv2 y), .int .u64 (wv1 y), .int .u64 (wv0 y)]) agt31 sz31 (T rfl rfl) H25 rfl) ?_
 refine lw_e (oe_callf (vs := [.agg #[.int .u64 (wv3 y), .int .u64 (wv2 y), .int .u64 (wv1 y), .int .u64 (wv0 y)]]) co70 (ar1 (T rfl rfl)) (toWide_ok (z := y)  ) ?_)
 rintro _ w26 ⟨rfl, e27⟩
 have E28 := below_ext E24 E24.size e27
 refine lw_v (.pointer (some ⟨b11, 4, none⟩)) (dv_fieldAddr (a := ⟨b11, 0, none⟩) (a' := ⟨b11, 4, none⟩) fo37_1 (T rfl rfl) rfl) ?_
 have H29 := (e27.blk H23)
 refine lw_e (oe_store (v := .agg #[.int .u64 (wv3 y), .int .u64 (wv2 y), .int .u64 (wv1 y), .int .u64 (wv0 y)]) (vs := [.int .u64 (wv3 y), .int .u64 (wv2 y), .int .u64 (wv1 y), .int .u64 (wv0 y)]) (l := [.int .u64 (wv3 x), .int .u64 (wv2 x), .int .u64 (wv1 x), .int .u64 (wv0 x), .int .u64 (wv3 y), .int .u64 (wv2 y), .int .u64 (wv1 y), .int .u64 (wv0 y), .int .u64 0, .int .u64 0, .int .u64 0, .int .u64 0]) (T rfl rfl) (T rfl rfl) sz35 rfl rfl rfl H29 rfl ?_)
 intro w30 s31 H32
 have E33 := below_st E28 N14 s31
 refine lw_nil ?_
 refine rk_seq ?_
 refine rk_reg ?_
 refine lw_v (.pointer (some ⟨b1, 8, none⟩)) (dv_fieldAddr (a := ⟨b1, 0, none⟩) (a' := ⟨b1, 8, none⟩) fo33_2 (T rfl rfl) rfl) ?_
 have H34 := (s31.blk (e27.blk H25) (by omega))
 refine lw_v (.agg #[.int .u64 (wv3 u), .int .u64 (wv2 u), .int .u64 (wv1 u), .int .u64 (wv0 u)]) (dv_loads (l := [.int .u64 (wv3 u), .int .u64 (wv2 u), .int .u64 (wv1 u), .int .u64 (wv0 u)]) agt31 sz31 (T rfl rfl) H34 rfl) ?_
 refine lw_e (oe_callf (vs := [.agg #[.int .u64 (wv3 u), .int .u64 (wv2 u), .int .u64 (wv1 u), .int .u64 (wv0 u)]]) co70 (ar1 (T rfl rfl)) (toWide_ok (z := u)  ) ?_)
 rintro _ w35 ⟨rfl, e36⟩
 have E37 := below_ext E33 E33.size e36
 refine lw_v (.pointer (some ⟨b11, 8, none⟩)) (dv_fieldAddr (a := ⟨b11, 0, none⟩) (a' := ⟨b11, 8, none⟩) fo37_2 (T rfl rfl) rfl) ?_
 have H38 := (e36.blk H32)
 refine lw_e (oe_store (v := .agg #[.int .u64 (wv3 u), .int .u64 (wv2 u), .int .u64 (wv1 u), .int .u64 (wv0 u)]) (vs := [.int .u64 (wv3 u), .int .u64 (wv2 u), .int .u64 (wv1 u), .int .u64 (wv0 u)]) (l := [.int .u64 (wv3 x), .int .u64 (wv2 x), .int .u64 (wv1 x), .int .u64 (wv0 x), .int .u64 (wv3 y), .int .u64 (wv2 y), .int .u64 (wv1 y), .int .u64 (wv0 y), .int .u64 (wv3 u), .int .u64 (wv2 u), .int .u64 (wv1 u), .int .u64 (wv0 u)]) (T rfl rfl) (T rfl rfl) sz35 rfl rfl rfl H38 rfl ?_)
 intro w39 s40 H41
 have E42 := below_st E37 N14 s40
 refine lw_nil ?_
 refine rk_seq ?_
 refine rk_reg ?_
 refine lw_v (.agg #[.int .u64 (wv3 x), .int .u64 (wv2 x), .int .u64 (wv1 x), .int .u64 (wv0 x), .int .u64 (wv3 y), .int .u64 (wv2 y), .int .u64 (wv1 y), .int .u64 (wv0 y), .int .u64 (wv3 u), .int .u64 (wv2 u), .int .u64 (wv1 u), .int .u64 (wv0 u)]) (dv_loads (l := [.int .u64 (wv3 x), .int .u64 (wv2 x), .int .u64 (wv1 x), .int .u64 (wv0 x), .int .u64 (wv3 y), .int .u64 (wv2 y), .int .u64 (wv1 y), .int .u64 (wv0 y), .int .u64 (wv3 u), .int .u64 (wv2 u), .int .u64 (wv1 u), .int .u64 (wv0 u)]) agt37 sz37 (T rfl rfl) H41 rfl) ?_
 have H43 := (s40.blk (e36.blk (s31.blk (e27.blk (s22.blk (e18.blk (n13.ext.blk n8.blk)) (by omega))) (by omega))) (by omega))
 refine lw_e (oe_store (v := .agg #[.int .u64 (wv3 x), .int .u64 (wv2 x), .int .u64 (wv1 x), .int .u64 (wv0 x), .int .u64 (wv3 y), .int .u64 (wv2 y), .int .u64 (wv1 y), .int .u64 (wv0 y), .int .u64 (wv3 u), .int .u64 (wv2 u), .int .u64 (wv1 u), .int .u64 (wv0 u)]) (vs := [.int .u64 (wv3 x), .int .u64 (wv2 x), .int .u64 (wv1 x), .int .u64 (wv0 x), .int .u64 (wv3 y), .int .u64 (wv2 y), .int .u64 (wv1 y), .int .u64 (wv0 y), .int .u64 (wv3 u), .int .u64 (wv2 u), .int .u64 (wv1 u), .int .u64 (wv0 u)]) (l := [.int .u64 (wv3 x), .int .u64 (wv2 x), .int .u64 (wv1 x), .int .u64 (wv0 x), .int .u64 (wv3 y), .int .u64 (wv2 y), .int .u64 (wv1 y), .int .u64 (wv0 y), .int .u64 (wv3 u), .int .u64 (wv2 u), .int .u64 (wv1 u), .int .u64 (wv0 u)]) (T rfl rfl) (T rfl rfl) sz37 rfl rfl rfl H43 rfl ?_)
 intro w44 s45 H46
 have E47 := below_st E42 N9 s45
 refine lw_nil ?_
 refine rk_ret Try.func21 (v := .agg #[.int .u64 (wv3 x), .int .u64 (wv2 x), .int .u64 (wv1 x), .int .u64 (wv0 x), .int .u64 (wv3 y), .int .u64 (wv2 y), .int .u64 (wv1 y), .int .u64 (wv0 y), .int .u64 (wv3 u), .int .u64 (wv2 u), .int .u64 (wv1 u), .int .u64 (wv0 u)]) (res1 Try.results21 (rv_cells (l := [.int .u64 (wv3 x), .int .u64 (wv2 x), .int .u64 (wv1 x), .int .u64 (wv0 x), .int .u64 (wv3 y), .int .u64 (wv2 y), .int .u64 (wv1 y), .int .u64 (wv0 y), .int .u64 (wv3 u), .int .u64 (wv2 u), .int .u64 (wv1 u), .int .u64 (wv0 u)]) agt37 sz37 rfl rfl H46 rfl)) ⟨_, rfl, ?_⟩
 exact ⟨rfl, E47⟩
set_option maxHeartbeats 1000000 in
theorem l3Small_ok {w : World}  {na : Bool} {Aa : Option Addr} {la ca : Nat} {x : Int} {sx : Nat} (ha : Num 32 183 .u32 w na Aa la ca x sx) {nb : Bool} {Ab : Option Addr} {lb cb : Nat} {y : Int} {sy : Nat} (hb : Num 32 183 .u32 w nb Ab lb cb y sy) {nm : Bool} {Am : Option Addr} {lm cm : Nat} {u : Int} {su : Nat} (hm : Num 32 183 .u32 w nm Am lm cm u su) (hbsx : sx ≤ 100000) (hbsy : sy ≤ 100000) (hbsu : su ≤ 100000)  : Ct Try.prog 127 [.agg #[.bool na, .slice Aa la ca, .bool nb, .slice Ab lb cb, .bool nm, .slice Am lm cm]] w fun v w1 => v = .bool (decide (sm3 x y u)) ∧ Ext w w1 := by
 refine ct_run (n := 22) Try.func127 rfl Try.ntmps127 rfl ?_
 have E0 : Below w.heap.size w w := Below.refl _ _
 have lha := Num.len (by decide) ha
 have lhb := Num.len (by decide) hb
 have lhm := Num.len (by decide) hm
 refine rk_seq ?_
 refine rk_reg ?_
 refine lw_e (oe_box (v := .agg #[.bool na, .slice Aa la ca, .bool nb, .slice Ab lb cb, .bool nm, .slice Am lm cm]) (cs := #[.bool na, .slice Aa la ca, .bool nb, .slice Ab lb cb, .bool nm, .slice Am lm cm]) (T rfl rfl) rfl ?_)
 intro b1 w2 n3
 have N4 : w.heap.size ≤ b1 := n3.eq ▸ E0.size
 have E5 := below_ext E0 E0.size n3.ext
 refine lw_v (.bool false) (dv_assign C) ?_
 refine lw_nil ?_
 refine rk_seq ?_
 refine rk_reg ?_
 refine lw_v (.pointer (some ⟨b1, 0, none⟩)) (dv_fieldAddr (a := ⟨b1, 0, none⟩) (a' := ⟨b1, 0, none⟩) fo102_0 (T rfl rfl) rfl) ?_
 refine lw_v (.pointer (some ⟨b1, 1, none⟩)) (dv_fieldAddr (a := ⟨b1, 0, none⟩) (a' := ⟨b1, 1, none⟩) fo100_1 (T rfl rfl) rfl) ?_
 refine lw_v (.slice Aa la ca) (dv_load1 (b := b1) (o := 1) agt98 (T rfl rfl) n3.blk rfl) ?_
 have h6 := (ha.ext n3.ext)
 refine lw_e (oe_callf (vs := [.slice Aa la ca]) co167 (ar1 (T rfl rfl)) (l1Bits_wc h6.wc (by first | omega | (simp; done) | (simp; omega))) ?_)
 rintro _ w7 ⟨rfl, e8⟩
 have E9 := below_ext E5 E5.size e8
 refine lw_v (.bool (decide (((nbits ((x.natAbs : Int)).toNat : Int)) ≤ 80))) (dv_leq (a := (nbits ((x.natAbs : Int)).toNat : Int)) (b := 80) (T rfl rfl) C) ?_
 refine lw_v (.bool (decide (((nbits ((x.natAbs : Int)).toNat : Int)) ≤ 80))) (dv_move (T rfl rfl)) ?_
 by_cases hb10 : ((nbits ((x.natAbs : Int)).toNat : Int)) ≤ 80
 · refine lw_vy (.pointer (some ⟨b1, 2, none⟩)) (d := 8) rfl rfl (congrArg Value.bool (decide_eq_true hb10)) (dv_fieldAddr (a := ⟨b1, 0, none⟩) (a' := ⟨b1, 2, none⟩) fo102_1 (T rfl rfl) rfl) ?_
   refine lw_vy (.pointer (some ⟨b1, 3, none⟩)) (d := 8) rfl rfl (congrArg Value.bool (decide_eq_true hb10)) (dv_fieldAddr (a := ⟨b1, 2, none⟩) (a' := ⟨b1, 3, none⟩) fo100_1 (T rfl rfl) rfl) ?_
   have H11 := (e8.blk n3.blk)
   refine lw_vy (.slice Ab lb cb) (d := 8) rfl rfl (congrArg Value.bool (decide_eq_true hb10)) (dv_load1 (b := b1) (o := 3) agt98 (T rfl rfl) H11 rfl) ?_
   have h12 := ((hb.ext n3.ext).ext e8)
   refine lw_ey (d := 8) rfl rfl (congrArg Value.bool (decide_eq_true hb10)) (oe_callf (vs := [.slice Ab lb cb]) co167 (ar1 (T rfl rfl)) (l1Bits_wc h12.wc (by first | omega | (simp; done) | (simp; omega))) ?_)
   rintro _ w13 ⟨rfl, e14⟩
   have E15 := below_ext E9 E9.size e14
   refine lw_vy (.bool (decide (((nbits ((y.natAbs : Int)).toNat : Int)) ≤ 80))) (d := 8) rfl rfl (congrArg Value.bool (decide_eq_true hb10)) (dv_leq (a := (nbits ((y.natAbs : Int)).toNat : Int)) (b := 80) (T rfl rfl) C) ?_
   refine lw_v (.bool (decide (((nbits ((y.natAbs : Int)).toNat : Int)) ≤ 80))) (dv_pick_t (T rfl (congrArg Value.bool (decide_eq_true hb10))) (T rfl rfl)) ?_
   refine lw_v (.bool (decide (((nbits ((y.natAbs : Int)).toNat : Int)) ≤ 80))) (dv_move (T rfl rfl)) ?_
   by_cases hb16 : ((nbits ((y.natAbs : Int)).toNat : Int)) ≤ 80
   · refine lw_vy (.pointer (some ⟨b1, 4, none⟩)) (d := 15) rfl rfl (congrArg Value.bool (decide_eq_true hb16)) (dv_fieldAddr (a := ⟨b1, 0, none⟩) (a' := ⟨b1, 4, none⟩) fo102_2 (T rfl rfl) rfl) ?_
     refine lw_vy (.pointer (some ⟨b1, 5, none⟩)) (d := 15) rfl rfl (congrArg Value.bool (decide_eq_true hb16)) (dv_fieldAddr (a := ⟨b1, 4, none⟩) (a' := ⟨b1, 5, none⟩) fo100_1 (T rfl rfl) rfl) ?_
     have H17 := (e14.blk H11)
     refine lw_vy (.slice Am lm cm) (d := 15) rfl rfl (congrArg Value.bool (decide_eq_true hb16)) (dv_load1 (b := b1) (o := 5) agt98 (T rfl rfl) H17 rfl) ?_
     have h18 := (((hm.ext n3.ext).ext e8).ext e14)
     refine lw_ey (d := 15) rfl rfl (congrArg Value.bool (decide_eq_true hb16)) (oe_callf (vs := [.slice Am lm cm]) co167 (ar1 (T rfl rfl)) (l1Bits_wc h18.wc (by first | omega | (simp; done) | (simp; omega))) ?_)
     rintro _ w19 ⟨rfl, e20⟩
     have E21 := below_ext E15 E15.size e20
     refine lw_vy (.bool (decide (((nbits ((u.natAbs : Int)).toNat : Int)) ≤ 80))) (d := 15) rfl rfl (congrArg Value.bool (decide_eq_true hb16)) (dv_leq (a := (nbits ((u.natAbs : Int)).toNat : Int)) (b := 80) (T rfl rfl) C) ?_
     refine lw_v (.bool (decide (((nbits ((u.natAbs : Int)).toNat : Int)) ≤ 80))) (dv_pick_t (T rfl (congrArg Value.bool (decide_eq_true hb16))) (T rfl rfl)) ?_
     refine lw_v (.bool (decide (((nbits ((u.natAbs : Int)).toNat : Int)) ≤ 80))) (dv_assign (T rfl rfl)) ?_
     refine lw_nil ?_
     refine rk_ret Try.func127 (v := .bool (decide (((nbits ((u.natAbs : Int)).toNat : Int)) ≤ 80))) (res1 Try.results127 (rv_tmp rfl rfl)) ⟨_, rfl, ?_⟩
     exact ⟨(vb (by unfold sm3; omega)), E21⟩
   · refine lw_no (d := 15) rfl rfl (congrArg Value.bool (decide_eq_false hb16)) ?_
     refine lw_no (d := 15) rfl rfl (congrArg Value.bool (decide_eq_false hb16)) ?_
     refine lw_no (d := 15) rfl rfl (congrArg Value.bool (decide_eq_false hb16)) ?_
     refine lw_no (d := 15) rfl rfl (congrArg Value.bool (decide_eq_false hb16)) ?_
     refine lw_no (d := 15) rfl rfl (congrArg Value.bool (decide_eq_false hb16)) ?_
     refine lw_v (.bool false) (dv_pick_f (T rfl (congrArg Value.bool (decide_eq_false hb16))) C) ?_
     refine lw_v (.bool false) (dv_assign (T rfl rfl)) ?_
     refine lw_nil ?_
     refine rk_ret Try.func127 (v := .bool false) (res1 Try.results127 (rv_tmp rfl rfl)) ⟨_, rfl, ?_⟩
     exact ⟨(vf (by unfold sm3; omega)), E15⟩
 · refine lw_no (d := 8) rfl rfl (congrArg Value.bool (decide_eq_false hb10)) ?_
   refine lw_no (d := 8) rfl rfl (congrArg Value.bool (decide_eq_false hb10)) ?_
   refine lw_no (d := 8) rfl rfl (congrArg Value.bool (decide_eq_false hb10)) ?_
   refine lw_no (d := 8) rfl rfl (congrArg Value.bool (decide_eq_false hb10)) ?_
   refine lw_no (d := 8) rfl rfl (congrArg Value.bool (decide_eq_false hb10)) ?_
   refine lw_v (.bool false) (dv_pick_f (T rfl (congrArg Value.bool (decide_eq_false hb10))) C) ?_
   refine lw_v (.bool false) (dv_move (T rfl rfl)) ?_
   refine lw_no (d := 15) rfl rfl (rfl) ?_
   refine lw_no (d := 15) rfl rfl (rfl) ?_
   refine lw_no (d := 15) rfl rfl (rfl) ?_
   refine lw_no (d := 15) rfl rfl (rfl) ?_
   refine lw_no (d := 15) rfl rfl (rfl) ?_
   refine lw_v (.bool false) (dv_pick_f (T rfl rfl) C) ?_
   refine lw_v (.bool false) (dv_assign (T rfl rfl)) ?_
   refine lw_nil ?_
   refine rk_ret Try.func127 (v := .bool false) (res1 Try.results127 (rv_tmp rfl rfl)) ⟨_, rfl, ?_⟩
   exact ⟨(vf (by unfold sm3; omega)), E9⟩
set_option maxHeartbeats 1000000 in
theorem spot_ok {w : World}  {x y u : Int} (fx_ : fits x) (fy_ : fits y) (fu_ : fits u)   : Ct Try.prog 90 [.agg #[.int .u64 (wv3 x), .int .u64 (wv2 x), .int .u64 (wv1 x), .int .u64 (wv0 x), .int .u64 (wv3 y), .int .u64 (wv2 y), .int .u64 (wv1 y), .int .u64 (wv0 y), .int .u64 (wv3 u), .int .u64 (wv2 u), .int .u64 (wv1 u), .int .u64 (wv0 u)]] w fun v w1 => ∃ nr0_ A0_ l0_ c0_ nr1_ A1_ l1_ c1_ nr2_ A2_ l2_ c2_, v = .agg #[.bool nr0_, .slice A0_ l0_ c0_, .bool nr1_, .slice A1_ l1_ c1_, .bool nr2_, .slice A2_ l2_ c2_] ∧ Ext w w1 ∧ Num 64 29 .u64 w1 nr0_ A0_ l0_ c0_ (x) (256) ∧ Num 64 29 .u64 w1 nr1_ A1_ l1_ c1_ (y) (256) ∧ Num 64 29 .u64 w1 nr2_ A2_ l2_ c2_ (u) (256) := by
 refine ct_run (n := 13) Try.func90 rfl Try.ntmps90 rfl ?_
 have E0 : Below w.heap.size w w := Below.refl _ _
 refine rk_seq ?_
 refine rk_reg ?_
 refine lw_e (oe_box (v := .agg #[.int .u64 (wv3 x), .int .u64 (wv2 x), .int .u64 (wv1 x), .int .u64 (wv0 x), .int .u64 (wv3 y), .int .u64 (wv2 y), .int .u64 (wv1 y), .int .u64 (wv0 y), .int .u64 (wv3 u), .int .u64 (wv2 u), .int .u64 (wv1 u), .int .u64 (wv0 u)]) (cs := #[.int .u64 (wv3 x), .int .u64 (wv2 x), .int .u64 (wv1 x), .int .u64 (wv0 x), .int .u64 (wv3 y), .int .u64 (wv2 y), .int .u64 (wv1 y), .int .u64 (wv0 y), .int .u64 (wv3 u), .int .u64 (wv2 u), .int .u64 (wv1 u), .int .u64 (wv0 u)]) (T rfl rfl) rfl ?_)
 intro b1 w2 n3
 have N4 : w.heap.size ≤ b1 := n3.eq ▸ E0.size
 have E5 := below_ext E0 E0.size n3.ext
 refine lw_e (oe_alloc ze122 ?_)
 intro b6 w7 n8
 have N9 : w.heap.size ≤ b6 := n8.eq ▸ E5.size
 have : b1 < b6 := n8.eq ▸ lt_of_blk n3.blk
 have E10 := below_ext E5 E5.size n8.ext
 refine lw_nil ?_
 refine rk_seq ?_
 refine rk_any (fun w => w.heap[b1]? = some (.cells #[.int .u64 (wv3 x), .int .u64 (wv2 x), .int .u64 (wv1 x), .int .u64 (wv0 x), .int .u64 (wv3 y), .int .u64 (wv2 y), .int .u64 (wv1 y), .int .u64 (wv0 y), .int .u64 (wv3 u), .int .u64 (wv2 u), .int .u64 (wv1 u), .int .u64 (wv0 u)] 37)) [10] mo ?_
 intro w11 d12
 have E13 := below_ext E10 E10.size d12.ext
 have H14 := (d12.ext.blk (n8.ext.blk n3.blk))
 refine aw_pure 0 (.pointer (some ⟨b1, 0, none⟩)) rfl (by kernel_rfl) .none H14 (fun _ => dv_fieldAddr (a := ⟨b1, 0, none⟩) (a' := ⟨b1, 0, none⟩) fo37_0 (T rfl rfl) rfl) ?_
 refine aw_load 1 (.agg #[.int .u64 (wv3 x), .int .u64 (wv2 x), .int .u64 (wv1 x), .int .u64 (wv0 x)]) rfl (by kernel_rfl) .none H14 (fun _ s => dv_loads (l := [.int .u64 (wv3 x), .int .u64 (wv2 x), .int .u64 (wv1 x), .int .u64 (wv0 x)]) agt35 sz35 (T rfl rfl) s rfl) ?_
 refine aw_pure 3 (.pointer (some ⟨b1, 4, none⟩)) rfl (by kernel_rfl) .none H14 (fun _ => dv_fieldAddr (a := ⟨b1, 0, none⟩) (a' := ⟨b1, 4, none⟩) fo37_1 (T rfl rfl) rfl) ?_
 refine aw_load 4 (.agg #[.int .u64 (wv3 y), .int .u64 (wv2 y), .int .u64 (wv1 y), .int .u64 (wv0 y)]) rfl (by kernel_rfl) .none H14 (fun _ s => dv_loads (l := [.int .u64 (wv3 y), .int .u64 (wv2 y), .int .u64 (wv1 y), .int .u64 (wv0 y)]) agt35 sz35 (T rfl rfl) s rfl) ?_
 refine aw_pure 6 (.pointer (some ⟨b1, 8, none⟩)) rfl (by kernel_rfl) .none H14 (fun _ => dv_fieldAddr (a := ⟨b1, 0, none⟩) (a' := ⟨b1, 8, none⟩) fo37_2 (T rfl rfl) rfl) ?_
 refine aw_load 7 (.agg #[.int .u64 (wv3 u), .int .u64 (wv2 u), .int .u64 (wv1 u), .int .u64 (wv0 u)]) rfl (by kernel_rfl) .none H14 (fun _ s => dv_loads (l := [.int .u64 (wv3 u), .int .u64 (wv2 u), .int .u64 (wv1 u), .int .u64 (wv0 u)]) agt35 sz35 (T rfl rfl) s rfl) ?_
 refine aw_one 2 rfl (by kernel_rfl) .none (oe_callf (vs := [.agg #[.int .u64 (wv3 x), .int .u64 (wv2 x), .int .u64 (wv1 x), .int .u64 (wv0 x)]]) co146 (ar1 (T rfl rfl)) (wnumz_ok (z := x) fx_) ?_)
 rintro _ w20 ⟨nr15, A16, n17, c18, rfl, e21, h19⟩
 have E22 := below_ext E13 E13.size e21
 have lh19 := Num.len (by decide) h19
 have H23 := (e21.blk H14)
 refine ⟨.inr H23, ?_⟩
 refine aw_one 5 rfl (by kernel_rfl) .none (oe_callf (vs := [.agg #[.int .u64 (wv3 y), .int .u64 (wv2 y), .int .u64 (wv1 y), .int .u64 (wv0 y)]]) co146 (ar1 (T rfl rfl)) (wnumz_ok (z := y) fy_) ?_)
 rintro _ w29 ⟨nr24, A25, n26, c27, rfl, e30, h28⟩
 have E31 := below_ext E22 E22.size e30
 have lh28 := Num.len (by decide) h28
 have H32 := (e30.blk H23)
 refine ⟨.inr H32, ?_⟩
 refine aw_one 8 rfl (by kernel_rfl) .none (oe_callf (vs := [.agg #[.int .u64 (wv3 u), .int .u64 (wv2 u), .int .u64 (wv1 u), .int .u64 (wv0 u)]]) co146 (ar1 (T rfl rfl)) (wnumz_ok (z := u) fu_) ?_)
 rintro _ w38 ⟨nr33, A34, n35, c36, rfl, e39, h37⟩
 have E40 := below_ext E31 E31.size e39
 have lh37 := Num.len (by decide) h37
 have H41 := (e39.blk H32)
 refine ⟨.inr H41, ?_⟩
 refine aw_pure 9 (.agg #[.bool nr15, .slice A16 n17 c18, .bool nr24, .slice A25 n26 c27, .bool nr33, .slice A34 n35 c36]) rfl (by kernel_rfl) .none H41 (fun _ => dv_build (pv := [(0, .agg #[.bool nr15, .slice A16 n17 c18]), (1, .agg #[.bool nr24, .slice A25 n26 c27]), (2, .agg #[.bool nr33, .slice A34 n35 c36])]) (l := [.bool nr15, .slice A16 n17 c18, .bool nr24, .slice A25 n26 c27, .bool nr33, .slice A34 n35 c36]) zc122 pl122 ⟨rfl, (T rfl rfl), ⟨rfl, (T rfl rfl), ⟨rfl, (T rfl rfl), trivial⟩⟩⟩ rfl) ?_
 have H42 := (e39.blk (e30.blk (e21.blk (d12.ext.blk n8.blk))))
 refine aw_one 10 rfl (by kernel_rfl) .none (oe_store (v := .agg #[.bool nr15, .slice A16 n17 c18, .bool nr24, .slice A25 n26 c27, .bool nr33, .slice A34 n35 c36]) (vs := [.bool nr15, .slice A16 n17 c18, .bool nr24, .slice A25 n26 c27, .bool nr33, .slice A34 n35 c36]) (l := [.bool nr15, .slice A16 n17 c18, .bool nr24, .slice A25 n26 c27, .bool nr33, .slice A34 n35 c36]) (T rfl rfl) (T rfl rfl) sz122 rfl rfl rfl H42 rfl ?_)
 intro w43 s44 H45
 have E46 := below_st E40 N9 s44
 refine ⟨.inl rfl, ?_⟩
 refine aw_done (by kernel_rfl) ?_
 refine rk_ret Try.func90 (v := .agg #[.bool nr15, .slice A16 n17 c18, .bool nr24, .slice A25 n26 c27, .bool nr33, .slice A34 n35 c36]) (res1 Try.results90 (rv_cells (l := [.bool nr15, .slice A16 n17 c18, .bool nr24, .slice A25 n26 c27, .bool nr33, .slice A34 n35 c36]) agt122 sz122 rfl rfl H45 rfl)) ⟨_, rfl, ?_⟩
 have h47 := (((h19.ext e30).ext e39).st s44 H42 (by decide))
 have h48 := ((h28.ext e39).st s44 H42 (by decide))
 have h49 := (h37.st s44 H42 (by decide))
 exact ⟨_, _, _, _, _, _, _, _, _, _, _, _, rfl, E46, h47.to rfl (Nat.le_refl _), h48.to rfl (Nat.le_refl _), h49.to rfl (Nat.le_refl _)⟩
set_option maxHeartbeats 1000000 in
theorem l3Of_ok {w : World}  {x y u : Int} (fx_ : fits x) (fy_ : fits y) (fu_ : fits u)   : Ct Try.prog 69 [.agg #[.int .u64 (wv3 x), .int .u64 (wv2 x), .int .u64 (wv1 x), .int .u64 (wv0 x), .int .u64 (wv3 y), .int .u64 (wv2 y), .int .u64 (wv1 y), .int .u64 (wv0 y), .int .u64 (wv3 u), .int .u64 (wv2 u), .int .u64 (wv1 u), .int .u64 (wv0 u)]] w fun v w1 => ∃ nr0_ A0_ l0_ c0_ nr1_ A1_ l1_ c1_ nr2_ A2_ l2_ c2_, v = .agg #[.bool nr0_, .slice A0_ l0_ c0_, .bool nr1_, .slice A1_ l1_ c1_, .bool nr2_, .slice A2_ l2_ c2_] ∧ Ext w w1 ∧ Num 32 183 .u32 w1 nr0_ A0_ l0_ c0_ (x) (256) ∧ Num 32 183 .u32 w1 nr1_ A1_ l1_ c1_ (y) (256) ∧ Num 32 183 .u32 w1 nr2_ A2_ l2_ c2_ (u) (256) := by
 refine ct_run (n := 13) Try.func69 rfl Try.ntmps69 rfl ?_
 have E0 : Below w.heap.size w w := Below.refl _ _
 refine rk_seq ?_
 refine rk_reg ?_
 refine lw_e (oe_box (v := .agg #[.int .u64 (wv3 x), .int .u64 (wv2 x), .int .u64 (wv1 x), .int .u64 (wv0 x), .int .u64 (wv3 y), .int .u64 (wv2 y), .int .u64 (wv1 y), .int .u64 (wv0 y), .int .u64 (wv3 u), .int .u64 (wv2 u), .int .u64 (wv1 u), .int .u64 (wv0 u)]) (cs := #[.int .u64 (wv3 x), .int .u64 (wv2 x), .int .u64 (wv1 x), .int .u64 (wv0 x), .int .u64 (wv3 y), .int .u64 (wv2 y), .int .u64 (wv1 y), .int .u64 (wv0 y), .int .u64 (wv3 u), .int .u64 (wv2 u), .int .u64 (wv1 u), .int .u64 (wv0 u)]) (T rfl rfl) rfl ?_)
 intro b1 w2 n3
 have N4 : w.heap.size ≤ b1 := n3.eq ▸ E0.size
 have E5 := below_ext E0 E0.size n3.ext
 refine lw_e (oe_alloc ze102 ?_)
 intro b6 w7 n8
 have N9 : w.heap.size ≤ b6 := n8.eq ▸ E5.size
 have : b1 < b6 := n8.eq ▸ lt_of_blk n3.blk
 have E10 := below_ext E5 E5.size n8.ext
 refine lw_nil ?_
 refine rk_seq ?_
 refine rk_any (fun w => w.heap[b1]? = some (.cells #[.int .u64 (wv3 x), .int .u64 (wv2 x), .int .u64 (wv1 x), .int .u64 (wv0 x), .int .u64 (wv3 y), .int .u64 (wv2 y), .int .u64 (wv1 y), .int .u64 (wv0 y), .int .u64 (wv3 u), .int .u64 (wv2 u), .int .u64 (wv1 u), .int .u64 (wv0 u)] 37)) [10] mo ?_
 intro w11 d12
 have E13 := below_ext E10 E10.size d12.ext
 have H14 := (d12.ext.blk (n8.ext.blk n3.blk))
 refine aw_pure 0 (.pointer (some ⟨b1, 0, none⟩)) rfl (by kernel_rfl) .none H14 (fun _ => dv_fieldAddr (a := ⟨b1, 0, none⟩) (a' := ⟨b1, 0, none⟩) fo37_0 (T rfl rfl) rfl) ?_
 refine aw_load 1 (.agg #[.int .u64 (wv3 x), .int .u64 (wv2 x), .int .u64 (wv1 x), .int .u64 (wv0 x)]) rfl (by kernel_rfl) .none H14 (fun _ s => dv_loads (l := [.int .u64 (wv3 x), .int .u64 (wv2 x), .int .u64 (wv1 x), .int .u64 (wv0 x)]) agt35 sz35 (T rfl rfl) s rfl) ?_
 refine aw_pure 3 (.pointer (some ⟨b1, 4, none⟩)) rfl (by kernel_rfl) .none H14 (fun _ => dv_fieldAddr (a := ⟨b1, 0, none⟩) (a' := ⟨b1, 4, none⟩) fo37_1 (T rfl rfl) rfl) ?_
 refine aw_load 4 (.agg #[.int .u64 (wv3 y), .int .u64 (wv2 y), .int .u64 (wv1 y), .int .u64 (wv0 y)]) rfl (by kernel_rfl) .none H14 (fun _ s => dv_loads (l := [.int .u64 (wv3 y), .int .u64 (wv2 y), .int .u64 (wv1 y), .int .u64 (wv0 y)]) agt35 sz35 (T rfl rfl) s rfl) ?_
 refine aw_pure 6 (.pointer (some ⟨b1, 8, none⟩)) rfl (by kernel_rfl) .none H14 (fun _ => dv_fieldAddr (a := ⟨b1, 0, none⟩) (a' := ⟨b1, 8, none⟩) fo37_2 (T rfl rfl) rfl) ?_
 refine aw_load 7 (.agg #[.int .u64 (wv3 u), .int .u64 (wv2 u), .int .u64 (wv1 u), .int .u64 (wv0 u)]) rfl (by kernel_rfl) .none H14 (fun _ s => dv_loads (l := [.int .u64 (wv3 u), .int .u64 (wv2 u), .int .u64 (wv1 u), .int .u64 (wv0 u)]) agt35 sz35 (T rfl rfl) s rfl) ?_
 refine aw_one 2 rfl (by kernel_rfl) .none (oe_callf (vs := [.agg #[.int .u64 (wv3 x), .int .u64 (wv2 x), .int .u64 (wv1 x), .int .u64 (wv0 x)]]) co130 (ar1 (T rfl rfl)) (l1Fromz_ok (z := x) fx_) ?_)
 rintro _ w20 ⟨nr15, A16, n17, c18, rfl, e21, h19⟩
 have E22 := below_ext E13 E13.size e21
 have lh19 := Num.len (by decide) h19
 have H23 := (e21.blk H14)
 refine ⟨.inr H23, ?_⟩
 refine aw_one 5 rfl (by kernel_rfl) .none (oe_callf (vs := [.agg #[.int .u64 (wv3 y), .int .u64 (wv2 y), .int .u64 (wv1 y), .int .u64 (wv0 y)]]) co130 (ar1 (T rfl rfl)) (l1Fromz_ok (z := y) fy_) ?_)
 rintro _ w29 ⟨nr24, A25, n26, c27, rfl, e30, h28⟩
 have E31 := below_ext E22 E22.size e30
 have lh28 := Num.len (by decide) h28
 have H32 := (e30.blk H23)
 refine ⟨.inr H32, ?_⟩
 refine aw_one 8 rfl (by kernel_rfl) .none (oe_callf (vs := [.agg #[.int .u64 (wv3 u), .int .u64 (wv2 u), .int .u64 (wv1 u), .int .u64 (wv0 u)]]) co130 (ar1 (T rfl rfl)) (l1Fromz_ok (z := u) fu_) ?_)
 rintro _ w38 ⟨nr33, A34, n35, c36, rfl, e39, h37⟩
 have E40 := below_ext E31 E31.size e39
 have lh37 := Num.len (by decide) h37
 have H41 := (e39.blk H32)
 refine ⟨.inr H41, ?_⟩
 refine aw_pure 9 (.agg #[.bool nr15, .slice A16 n17 c18, .bool nr24, .slice A25 n26 c27, .bool nr33, .slice A34 n35 c36]) rfl (by kernel_rfl) .none H41 (fun _ => dv_build (pv := [(0, .agg #[.bool nr15, .slice A16 n17 c18]), (1, .agg #[.bool nr24, .slice A25 n26 c27]), (2, .agg #[.bool nr33, .slice A34 n35 c36])]) (l := [.bool nr15, .slice A16 n17 c18, .bool nr24, .slice A25 n26 c27, .bool nr33, .slice A34 n35 c36]) zc102 pl102 ⟨rfl, (T rfl rfl), ⟨rfl, (T rfl rfl), ⟨rfl, (T rfl rfl), trivial⟩⟩⟩ rfl) ?_
 have H42 := (e39.blk (e30.blk (e21.blk (d12.ext.blk n8.blk))))
 refine aw_one 10 rfl (by kernel_rfl) .none (oe_store (v := .agg #[.bool nr15, .slice A16 n17 c18, .bool nr24, .slice A25 n26 c27, .bool nr33, .slice A34 n35 c36]) (vs := [.bool nr15, .slice A16 n17 c18, .bool nr24, .slice A25 n26 c27, .bool nr33, .slice A34 n35 c36]) (l := [.bool nr15, .slice A16 n17 c18, .bool nr24, .slice A25 n26 c27, .bool nr33, .slice A34 n35 c36]) (T rfl rfl) (T rfl rfl) sz102 rfl rfl rfl H42 rfl ?_)
 intro w43 s44 H45
 have E46 := below_st E40 N9 s44
 refine ⟨.inl rfl, ?_⟩
 refine aw_done (by kernel_rfl) ?_
 refine rk_ret Try.func69 (v := .agg #[.bool nr15, .slice A16 n17 c18, .bool nr24, .slice A25 n26 c27, .bool nr33, .slice A34 n35 c36]) (res1 Try.results69 (rv_cells (l := [.bool nr15, .slice A16 n17 c18, .bool nr24, .slice A25 n26 c27, .bool nr33, .slice A34 n35 c36]) agt102 sz102 rfl rfl H45 rfl)) ⟨_, rfl, ?_⟩
 have h47 := (((h19.ext e30).ext e39).st s44 H42 (by decide))
 have h48 := ((h28.ext e39).st s44 H42 (by decide))
 have h49 := (h37.st s44 H42 (by decide))
 exact ⟨_, _, _, _, _, _, _, _, _, _, _, _, rfl, E46, h47.to rfl (Nat.le_refl _), h48.to rfl (Nat.le_refl _), h49.to rfl (Nat.le_refl _)⟩
set_option maxHeartbeats 1000000 in
theorem sPointOk_ok {w : World} {x y u : Int} (fx_ : fits x) (fy_ : fits y) (fu_ : fits u)  : Ct Try.prog 67 [.agg #[.int .u64 (wv3 x), .int .u64 (wv2 x), .int .u64 (wv1 x), .int .u64 (wv0 x), .int .u64 (wv3 y), .int .u64 (wv2 y), .int .u64 (wv1 y), .int .u64 (wv0 y), .int .u64 (wv3 u), .int .u64 (wv2 u), .int .u64 (wv1 u), .int .u64 (wv0 u)]] w fun v w1 => v = .bool (decide (pOk x y u)) ∧ Ext w w1 := by
 refine ct_run (n := 27) Try.func67 rfl Try.ntmps67 rfl ?_
 have E0 : Below w.heap.size w w := Below.refl _ _
 refine rk_seq ?_
 refine rk_reg ?_
 refine lw_e (oe_box (v := .agg #[.int .u64 (wv3 x), .int .u64 (wv2 x), .int .u64 (wv1 x), .int .u64 (wv0 x), .int .u64 (wv3 y), .int .u64 (wv2 y), .int .u64 (wv1 y), .int .u64 (wv0 y), .int .u64 (wv3 u), .int .u64 (wv2 u), .int .u64 (wv1 u), .int .u64 (wv0 u)]) (cs := #[.int .u64 (wv3 x), .int .u64 (wv2 x), .int .u64 (wv1 x), .int .u64 (wv0 x), .int .u64 (wv3 y), .int .u64 (wv2 y), .int .u64 (wv1 y), .int .u64 (wv0 y), .int .u64 (wv3 u), .int .u64 (wv2 u), .int .u64 (wv1 u), .int .u64 (wv0 u)]) (T rfl rfl) rfl ?_)
 intro b1 w2 n3
 have N4 : w.heap.size ≤ b1 := n3.eq ▸ E0.size
 have E5 := below_ext E0 E0.size n3.ext
 refine lw_v (.bool false) (dv_assign C) ?_
 refine lw_nil ?_
 refine rk_seq ?_
 refine rk_reg ?_
 refine lw_v (.agg #[.int .u64 (wv3 x), .int .u64 (wv2 x), .int .u64 (wv1 x), .int .u64 (wv0 x), .int .u64 (wv3 y), .int .u64 (wv2 y), .int .u64 (wv1 y), .int .u64 (wv0 y), .int .u64 (wv3 u), .int .u64 (wv2 u), .int .u64 (wv1 u), .int .u64 (wv0 u)]) (dv_loads (l := [.int .u64 (wv3 x), .int .u64 (wv2 x), .int .u64 (wv1 x), .int .u64 (wv0 x), .int .u64 (wv3 y), .int .u64 (wv2 y), .int .u64 (wv1 y), .int .u64 (wv0 y), .int .u64 (wv3 u), .int .u64 (wv2 u), .int .u64 (wv1 u), .int .u64 (wv0 u)]) agt37 sz37 (T rfl rfl) n3.blk rfl) ?_
 refine lw_e (oe_callf (vs := [.agg #[.int .u64 (wv3 x), .int .u64 (wv2 x), .int .u64 (wv1 x), .int .u64 (wv0 x), .int .u64 (wv3 y), .int .u64 (wv2 y), .int .u64 (wv1 y), .int .u64 (wv0 y), .int .u64 (wv3 u), .int .u64 (wv2 u), .int .u64 (wv1 u), .int .u64 (wv0 u)]]) co69 (ar1 (T rfl rfl)) (l3Of_ok fx_ fy_ fu_  ) ?_)
 rintro _ w21 ⟨nr6, A7, n8, c9, nr10, A11, n12, c13, nr14, A15, n16, c17, rfl, e22, h18, h19, h20⟩
 have E23 := below_ext E5 E5.size e22
 have lh18 := Num.len (by decide) h18
 have lh19 := Num.len (by decide) h19
 have lh20 := Num.len (by decide) h20
 refine lw_e (oe_alloc ze102 ?_)
 intro b24 w25 n26
 have N27 : w.heap.size ≤ b24 := n26.eq ▸ E23.size
 have H28 := (e22.blk n3.blk)
 have : b1 < b24 := n26.eq ▸ lt_of_blk H28
 have E29 := below_ext E23 E23.size n26.ext
 refine lw_e (oe_store (v := .agg #[.bool nr6, .slice A7 n8 c9, .bool nr10, .slice A11 n12 c13, .bool nr14, .slice A15 n16 c17]) (vs := [.bool nr6, .slice A7 n8 c9, .bool nr10, .slice A11 n12 c13, .bool nr14, .slice A15 n16 c17]) (l := [.bool nr6, .slice A7 n8 c9, .bool nr10, .slice A11 n12 c13, .bool nr14, .slice A15 n16 c17]) (T rfl rfl) (T rfl rfl) sz102 rfl rfl rfl n26.blk rfl ?_)
 intro w30 s31 H32
 have E33 := below_st E29 N27 s31
 refine lw_nil ?_
 refine rk_seq ?_
 refine rk_any (fun w => w.heap[b24]? = some (.cells #[.bool nr6, .slice A7 n8 c9, .bool nr10, .slice A11 n12 c13, .bool nr14, .slice A15 n16 c17] 102)) [21] mo ?_
 intro w34 d35
 have E36 := below_ext E33 E33.size d35.ext
 have H37 := (d35.ext.blk H32)
 refine aw_pure 0 (.pointer (some ⟨b24, 4, none⟩)) rfl (by kernel_rfl) .none H37 (fun _ => dv_fieldAddr (a := ⟨b24, 0, none⟩) (a' := ⟨b24, 4, none⟩) fo102_2 (T rfl rfl) rfl) ?_
 refine aw_load 1 (.agg #[.bool nr14, .slice A15 n16 c17]) rfl (by kernel_rfl) .none H37 (fun _ s => dv_loads (l := [.bool nr14, .slice A15 n16 c17]) agt100 sz100 (T rfl rfl) s rfl) ?_
 have h38 := (((h20.ext n26.ext).st s31 n26.blk (by decide)).ext d35.ext)
 refine aw_one 2 rfl (by kernel_rfl) .none (oe_callf (vs := [.agg #[.bool nr14, .slice A15 n16 c17]]) co126 (ar1 (T rfl rfl)) (l1Sign_ok h38 ) ?_)
 rintro _ w39 ⟨rfl, e40⟩
 have E41 := below_ext E36 E36.size e40
 have H42 := (e40.blk H37)
 refine ⟨.inr H42, ?_⟩
 refine aw_pure 3 (.bool (decide (0 < (sgnI u)))) rfl (by kernel_rfl) .none H42 (fun _ => dv_gtr (a := sgnI u) (b := 0) (T rfl rfl) C) ?_
 refine aw_pure 4 (.bool (decide (0 < (sgnI u)))) rfl (by kernel_rfl) .none H42 (fun _ => dv_move (T rfl rfl)) ?_
 by_cases hb43 : 0 < (sgnI u)
 · refine aw_load 5 (.agg #[.bool nr6, .slice A7 n8 c9, .bool nr10, .slice A11 n12 c13, .bool nr14, .slice A15 n16 c17]) rfl (by kernel_rfl) (.yes (d := 10) rfl rfl (congrArg Value.bool (decide_eq_true hb43))) H42 (fun _ s => dv_loads (l := [.bool nr6, .slice A7 n8 c9, .bool nr10, .slice A11 n12 c13, .bool nr14, .slice A15 n16 c17]) agt102 sz102 (T rfl rfl) s rfl) ?_
   have h44 := ((((h18.ext n26.ext).st s31 n26.blk (by decide)).ext d35.ext).ext e40)
   have h45 := ((((h19.ext n26.ext).st s31 n26.blk (by decide)).ext d35.ext).ext e40)
   have h46 := (h38.ext e40)
   refine aw_one 6 rfl (by kernel_rfl) (.yes (d := 10) rfl rfl (congrArg Value.bool (decide_eq_true hb43))) (oe_callf (vs := [.agg #[.bool nr6, .slice A7 n8 c9, .bool nr10, .slice A11 n12 c13, .bool nr14, .slice A15 n16 c17]]) co127 (ar1 (T rfl rfl)) (l3Small_ok h44 h45 h46 (by first | decide | omega) (by first | decide | omega) (by first | decide | omega) ) ?_)
   rintro _ w47 ⟨rfl, e48⟩
   have E49 := below_ext E41 E41.size e48
   have H50 := (e48.blk H42)
   refine ⟨.inr H50, ?_⟩
   refine aw_pure 7 (.bool (decide (sm3 x y u))) rfl (by kernel_rfl) .none H50 (fun _ => dv_pick_t (T rfl (congrArg Value.bool (decide_eq_true hb43))) (T rfl rfl)) ?_
   refine aw_pure 8 (.bool (decide (sm3 x y u))) rfl (by kernel_rfl) .none H50 (fun _ => dv_move (T rfl rfl)) ?_
   by_cases hb51 : sm3 x y u
   · refine aw_pure 9 (.pointer (some ⟨b24, 0, none⟩)) rfl (by kernel_rfl) (.yes (d := 14) rfl rfl (congrArg Value.bool (decide_eq_true hb51))) H50 (fun _ => dv_fieldAddr (a := ⟨b24, 0, none⟩) (a' := ⟨b24, 0, none⟩) fo102_0 (T rfl rfl) rfl) ?_
     refine aw_load 10 (.agg #[.bool nr6, .slice A7 n8 c9]) rfl (by kernel_rfl) (.yes (d := 14) rfl rfl (congrArg Value.bool (decide_eq_true hb51))) H50 (fun _ s => dv_loads (l := [.bool nr6, .slice A7 n8 c9]) agt100 sz100 (T rfl rfl) s rfl) ?_
     refine aw_pure 11 (.pointer (some ⟨b24, 2, none⟩)) rfl (by kernel_rfl) (.yes (d := 14) rfl rfl (congrArg Value.bool (decide_eq_true hb51))) H50 (fun _ => dv_fieldAddr (a := ⟨b24, 0, none⟩) (a' := ⟨b24, 2, none⟩) fo102_1 (T rfl rfl) rfl) ?_
     refine aw_load 12 (.agg #[.bool nr10, .slice A11 n12 c13]) rfl (by kernel_rfl) (.yes (d := 14) rfl rfl (congrArg Value.bool (decide_eq_true hb51))) H50 (fun _ s => dv_loads (l := [.bool nr10, .slice A11 n12 c13]) agt100 sz100 (T rfl rfl) s rfl) ?_
     refine aw_pure 14 (.pointer (some ⟨b24, 4, none⟩)) rfl (by kernel_rfl) (.yes (d := 14) rfl rfl (congrArg Value.bool (decide_eq_true hb51))) H50 (fun _ => dv_fieldAddr (a := ⟨b24, 0, none⟩) (a' := ⟨b24, 4, none⟩) fo102_2 (T rfl rfl) rfl) ?_
     refine aw_load 15 (.agg #[.bool nr14, .slice A15 n16 c17]) rfl (by kernel_rfl) (.yes (d := 14) rfl rfl (congrArg Value.bool (decide_eq_true hb51))) H50 (fun _ s => dv_loads (l := [.bool nr14, .slice A15 n16 c17]) agt100 sz100 (T rfl rfl) s rfl) ?_
     have h52 := (h44.ext e48)
     have h53 := (h45.ext e48)
     refine aw_one 13 rfl (by kernel_rfl) (.yes (d := 14) rfl rfl (congrArg Value.bool (decide_eq_true hb51))) (oe_callf (vs := [.agg #[.bool nr6, .slice A7 n8 c9], .agg #[.bool nr10, .slice A11 n12 c13]]) co129 (ar2 (T rfl rfl) (T rfl rfl)) (l1Gcd_ok h52 h53 (by first | decide | omega) (by first | decide | omega)) ?_)
     rintro _ w59 ⟨nr54, A55, n56, c57, rfl, e60, h58⟩
     have E61 := below_ext E49 E49.size e60
     have lh58 := Num.len (by decide) h58
     have H62 := (e60.blk H50)
     refine ⟨.inr H62, ?_⟩
     have h63 := ((h46.ext e48).ext e60)
     refine aw_one 16 rfl (by kernel_rfl) (.yes (d := 14) rfl rfl (congrArg Value.bool (decide_eq_true hb51))) (oe_callf (vs := [.agg #[.bool nr54, .slice A55 n56 c57], .agg #[.bool nr14, .slice A15 n16 c17]]) co129 (ar2 (T rfl rfl) (T rfl rfl)) (l1Gcd_ok h58 h63 (by first | decide | omega) (by first | decide | omega)) ?_)
     rintro _ w69 ⟨nr64, A65, n66, c67, rfl, e70, h68⟩
     have E71 := below_ext E61 E61.size e70
     have lh68 := Num.len (by decide) h68
     have H72 := (e70.blk H62)
     refine ⟨.inr H72, ?_⟩
     refine aw_one 17 rfl (by kernel_rfl) (.yes (d := 14) rfl rfl (congrArg Value.bool (decide_eq_true hb51))) (oe_callf (vs := [.int .i64 1]) co100 (ar1 C) (l1Int_ok  (by omega)) ?_)
     rintro _ w78 ⟨nr73, A74, n75, c76, rfl, e79, h77⟩
     have E80 := below_ext E71 E71.size e79
     have lh77 := Num.len (by decide) h77
     have H81 := (e79.blk H72)
     refine ⟨.inr H81, ?_⟩
     have h82 := (h68.ext e79)
     refine aw_one 18 rfl (by kernel_rfl) (.yes (d := 14) rfl rfl (congrArg Value.bool (decide_eq_true hb51))) (oe_callf (vs := [.agg #[.bool nr64, .slice A65 n66 c67], .agg #[.bool nr73, .slice A74 n75 c76]]) co128 (ar2 (T rfl rfl) (T rfl rfl)) (l1Cmp_ok h82 h77 (by first | decide | omega) (by first | decide | omega)) ?_)
     rintro _ w83 ⟨rfl, e84⟩
     have E85 := below_ext E80 E80.size e84
     have H86 := (e84.blk H81)
     refine ⟨.inr H86, ?_⟩
     refine aw_pure 19 (.bool (decide ((sgnI ((gI (gI x y) u) - 1)) = 0))) rfl (by kernel_rfl) (.yes (d := 14) rfl rfl (congrArg Value.bool (decide_eq_true hb51))) H86 (fun _ => dv_eql (a := sgnI ((gI (gI x y) u) - 1)) (b := 0) (T rfl rfl) C) ?_
     refine aw_pure 20 (.bool (decide ((sgnI ((gI (gI x y) u) - 1)) = 0))) rfl (by kernel_rfl) .none H86 (fun _ => dv_pick_t (T rfl (congrArg Value.bool (decide_eq_true hb51))) (T rfl rfl)) ?_
     refine aw_last 21 (.bool (decide ((sgnI ((gI (gI x y) u) - 1)) = 0))) rfl (by kernel_rfl) .none (fun _ => dv_assign (T rfl rfl)) ?_
     refine aw_done (by kernel_rfl) ?_
     refine rk_ret Try.func67 (v := .bool (decide ((sgnI ((gI (gI x y) u) - 1)) = 0))) (res1 Try.results67 (rv_tmp rfl rfl)) ⟨_, rfl, ?_⟩
     have h1 : sm3 x y u := by first | assumption | exact sm3_iff.2 (mx3.1 ‹_›)
     have h2 : 0 < u := sgnI_gt.1 (by assumption)
     have h3 := @sgnI_zero (gI3 x y u - 1)
     exact ⟨(vb ⟨fun hh => ⟨h2, h1, by have := h3.1 hh; omega⟩, fun hh => h3.2 (by have := hh.2.2; omega)⟩), E85⟩
   · refine aw_no 9 rfl (by kernel_rfl) (d := 14) rfl rfl (congrArg Value.bool (decide_eq_false hb51)) H50 ?_
     refine aw_no 10 rfl (by kernel_rfl) (d := 14) rfl rfl (congrArg Value.bool (decide_eq_false hb51)) H50 ?_
     refine aw_no 11 rfl (by kernel_rfl) (d := 14) rfl rfl (congrArg Value.bool (decide_eq_false hb51)) H50 ?_
     refine aw_no 12 rfl (by kernel_rfl) (d := 14) rfl rfl (congrArg Value.bool (decide_eq_false hb51)) H50 ?_
     refine aw_no 13 rfl (by kernel_rfl) (d := 14) rfl rfl (congrArg Value.bool (decide_eq_false hb51)) H50 ?_
     refine aw_no 14 rfl (by kernel_rfl) (d := 14) rfl rfl (congrArg Value.bool (decide_eq_false hb51)) H50 ?_
     refine aw_no 15 rfl (by kernel_rfl) (d := 14) rfl rfl (congrArg Value.bool (decide_eq_false hb51)) H50 ?_
     refine aw_no 16 rfl (by kernel_rfl) (d := 14) rfl rfl (congrArg Value.bool (decide_eq_false hb51)) H50 ?_
     refine aw_no 17 rfl (by kernel_rfl) (d := 14) rfl rfl (congrArg Value.bool (decide_eq_false hb51)) H50 ?_
     refine aw_no 18 rfl (by kernel_rfl) (d := 14) rfl rfl (congrArg Value.bool (decide_eq_false hb51)) H50 ?_
     refine aw_no 19 rfl (by kernel_rfl) (d := 14) rfl rfl (congrArg Value.bool (decide_eq_false hb51)) H50 ?_
     refine aw_pure 20 (.bool false) rfl (by kernel_rfl) .none H50 (fun _ => dv_pick_f (T rfl (congrArg Value.bool (decide_eq_false hb51))) C) ?_
     refine aw_last 21 (.bool false) rfl (by kernel_rfl) .none (fun _ => dv_assign (T rfl rfl)) ?_
     refine aw_done (by kernel_rfl) ?_
     refine rk_ret Try.func67 (v := .bool false) (res1 Try.results67 (rv_tmp rfl rfl)) ⟨_, rfl, ?_⟩
     exact ⟨(vf (by intro hh; have h1 := sgnI_gt.2 hh.1; have h2 := hh.2.1; first | (exact absurd h2 (by assumption)) | (exact absurd (mx3.2 (sm3_iff.1 h2)) (by assumption)) | contradiction | omega)), E49⟩
 · refine aw_no 5 rfl (by kernel_rfl) (d := 10) rfl rfl (congrArg Value.bool (decide_eq_false hb43)) H42 ?_
   refine aw_no 6 rfl (by kernel_rfl) (d := 10) rfl rfl (congrArg Value.bool (decide_eq_false hb43)) H42 ?_
   refine aw_pure 7 (.bool false) rfl (by kernel_rfl) .none H42 (fun _ => dv_pick_f (T rfl (congrArg Value.bool (decide_eq_false hb43))) C) ?_
   refine aw_pure 8 (.bool false) rfl (by kernel_rfl) .none H42 (fun _ => dv_move (T rfl rfl)) ?_
   refine aw_no 9 rfl (by kernel_rfl) (d := 14) rfl rfl (rfl) H42 ?_
   refine aw_no 10 rfl (by kernel_rfl) (d := 14) rfl rfl (rfl) H42 ?_
   refine aw_no 11 rfl (by kernel_rfl) (d := 14) rfl rfl (rfl) H42 ?_
   refine aw_no 12 rfl (by kernel_rfl) (d := 14) rfl rfl (rfl) H42 ?_
   refine aw_no 13 rfl (by kernel_rfl) (d := 14) rfl rfl (rfl) H42 ?_
   refine aw_no 14 rfl (by kernel_rfl) (d := 14) rfl rfl (rfl) H42 ?_
   refine aw_no 15 rfl (by kernel_rfl) (d := 14) rfl rfl (rfl) H42 ?_
   refine aw_no 16 rfl (by kernel_rfl) (d := 14) rfl rfl (rfl) H42 ?_
   refine aw_no 17 rfl (by kernel_rfl) (d := 14) rfl rfl (rfl) H42 ?_
   refine aw_no 18 rfl (by kernel_rfl) (d := 14) rfl rfl (rfl) H42 ?_
   refine aw_no 19 rfl (by kernel_rfl) (d := 14) rfl rfl (rfl) H42 ?_
   refine aw_pure 20 (.bool false) rfl (by kernel_rfl) .none H42 (fun _ => dv_pick_f (T rfl rfl) C) ?_
   refine aw_last 21 (.bool false) rfl (by kernel_rfl) .none (fun _ => dv_assign (T rfl rfl)) ?_
   refine aw_done (by kernel_rfl) ?_
   refine rk_ret Try.func67 (v := .bool false) (res1 Try.results67 (rv_tmp rfl rfl)) ⟨_, rfl, ?_⟩
   exact ⟨(vf (by intro hh; have h1 := sgnI_gt.2 hh.1; have h2 := hh.2.1; first | (exact absurd h2 (by assumption)) | (exact absurd (mx3.2 (sm3_iff.1 h2)) (by assumption)) | contradiction | omega)), E41⟩
set_option maxHeartbeats 1000000 in
theorem iPointOk_ok {w : World} {x y u : Int} (fx_ : fits x) (fy_ : fits y) (fu_ : fits u)  : Ct Try.prog 75 [.agg #[.int .u64 (wv3 x), .int .u64 (wv2 x), .int .u64 (wv1 x), .int .u64 (wv0 x), .int .u64 (wv3 y), .int .u64 (wv2 y), .int .u64 (wv1 y), .int .u64 (wv0 y), .int .u64 (wv3 u), .int .u64 (wv2 u), .int .u64 (wv1 u), .int .u64 (wv0 u)]] w fun v w1 => v = .bool (decide (pOk x y u)) ∧ Ext w w1 := by
 refine ct_run (n := 36) Try.func75 rfl Try.ntmps75 rfl ?_
 have E0 : Below w.heap.size w w := Below.refl _ _
 refine rk_seq ?_
 refine rk_reg ?_
 refine lw_e (oe_box (v := .agg #[.int .u64 (wv3 x), .int .u64 (wv2 x), .int .u64 (wv1 x), .int .u64 (wv0 x), .int .u64 (wv3 y), .int .u64 (wv2 y), .int .u64 (wv1 y), .int .u64 (wv0 y), .int .u64 (wv3 u), .int .u64 (wv2 u), .int .u64 (wv1 u), .int .u64 (wv0 u)]) (cs := #[.int .u64 (wv3 x), .int .u64 (wv2 x), .int .u64 (wv1 x), .int .u64 (wv0 x), .int .u64 (wv3 y), .int .u64 (wv2 y), .int .u64 (wv1 y), .int .u64 (wv0 y), .int .u64 (wv3 u), .int .u64 (wv2 u), .int .u64 (wv1 u), .int .u64 (wv0 u)]) (T rfl rfl) rfl ?_)
 intro b1 w2 n3
 have N4 : w.heap.size ≤ b1 := n3.eq ▸ E0.size
 have E5 := below_ext E0 E0.size n3.ext
 refine lw_v (.bool false) (dv_assign C) ?_
 refine lw_nil ?_
 refine rk_seq ?_
 refine rk_reg ?_
 refine lw_v (.agg #[.int .u64 (wv3 x), .int .u64 (wv2 x), .int .u64 (wv1 x), .int .u64 (wv0 x), .int .u64 (wv3 y), .int .u64 (wv2 y), .int .u64 (wv1 y), .int .u64 (wv0 y), .int .u64 (wv3 u), .int .u64 (wv2 u), .int .u64 (wv1 u), .int .u64 (wv0 u)]) (dv_loads (l := [.int .u64 (wv3 x), .int .u64 (wv2 x), .int .u64 (wv1 x), .int .u64 (wv0 x), .int .u64 (wv3 y), .int .u64 (wv2 y), .int .u64 (wv1 y), .int .u64 (wv0 y), .int .u64 (wv3 u), .int .u64 (wv2 u), .int .u64 (wv1 u), .int .u64 (wv0 u)]) agt37 sz37 (T rfl rfl) n3.blk rfl) ?_
 refine lw_e (oe_callf (vs := [.agg #[.int .u64 (wv3 x), .int .u64 (wv2 x), .int .u64 (wv1 x), .int .u64 (wv0 x), .int .u64 (wv3 y), .int .u64 (wv2 y), .int .u64 (wv1 y), .int .u64 (wv0 y), .int .u64 (wv3 u), .int .u64 (wv2 u), .int .u64 (wv1 u), .int .u64 (wv0 u)]]) co90 (ar1 (T rfl rfl)) (spot_ok fx_ fy_ fu_  ) ?_)
 rintro _ w21 ⟨nr6, A7, n8, c9, nr10, A11, n12, c13, nr14, A15, n16, c17, rfl, e22, h18, h19, h20⟩
 have E23 := below_ext E5 E5.size e22
 have lh18 := Num.len (by decide) h18
 have lh19 := Num.len (by decide) h19
 have lh20 := Num.len (by decide) h20
 refine lw_e (oe_alloc ze122 ?_)
 intro b24 w25 n26
 have N27 : w.heap.size ≤ b24 := n26.eq ▸ E23.size
 have H28 := (e22.blk n3.blk)
 have : b1 < b24 := n26.eq ▸ lt_of_blk H28
 have E29 := below_ext E23 E23.size n26.ext
 refine lw_e (oe_store (v := .agg #[.bool nr6, .slice A7 n8 c9, .bool nr10, .slice A11 n12 c13, .bool nr14, .slice A15 n16 c17]) (vs := [.bool nr6, .slice A7 n8 c9, .bool nr10, .slice A11 n12 c13, .bool nr14, .slice A15 n16 c17]) (l := [.bool nr6, .slice A7 n8 c9, .bool nr10, .slice A11 n12 c13, .bool nr14, .slice A15 n16 c17]) (T rfl rfl) (T rfl rfl) sz122 rfl rfl rfl n26.blk rfl ?_)
 intro w30 s31 H32
 have E33 := below_st E29 N27 s31
 refine lw_nil ?_
 refine rk_seq ?_
 refine rk_any (fun w => w.heap[b24]? = some (.cells #[.bool nr6, .slice A7 n8 c9, .bool nr10, .slice A11 n12 c13, .bool nr14, .slice A15 n16 c17] 122)) [30] mo ?_
 intro w34 d35
 have E36 := below_ext E33 E33.size d35.ext
 have H37 := (d35.ext.blk H32)
 refine aw_pure 0 (.pointer (some ⟨b24, 4, none⟩)) rfl (by kernel_rfl) .none H37 (fun _ => dv_fieldAddr (a := ⟨b24, 0, none⟩) (a' := ⟨b24, 4, none⟩) fo122_2 (T rfl rfl) rfl) ?_
 refine aw_load 1 (.agg #[.bool nr14, .slice A15 n16 c17]) rfl (by kernel_rfl) .none H37 (fun _ s => dv_loads (l := [.bool nr14, .slice A15 n16 c17]) agt120 sz120 (T rfl rfl) s rfl) ?_
 have h38 := (((h20.ext n26.ext).st s31 n26.blk (by decide)).ext d35.ext)
 refine aw_one 2 rfl (by kernel_rfl) .none (oe_callf (vs := [.agg #[.bool nr14, .slice A15 n16 c17]]) co132 (ar1 (T rfl rfl)) (nsign_ok h38 ) ?_)
 rintro _ w39 ⟨rfl, e40⟩
 have E41 := below_ext E36 E36.size e40
 have H42 := (e40.blk H37)
 refine ⟨.inr H42, ?_⟩
 refine aw_pure 3 (.bool (decide (0 < (sgnI u)))) rfl (by kernel_rfl) .none H42 (fun _ => dv_gtr (a := sgnI u) (b := 0) (T rfl rfl) C) ?_
 refine aw_pure 4 (.bool (decide (0 < (sgnI u)))) rfl (by kernel_rfl) .none H42 (fun _ => dv_move (T rfl rfl)) ?_
 by_cases hb43 : 0 < (sgnI u)
 · refine aw_pure 5 (.pointer (some ⟨b24, 0, none⟩)) rfl (by kernel_rfl) (.yes (d := 10) rfl rfl (congrArg Value.bool (decide_eq_true hb43))) H42 (fun _ => dv_fieldAddr (a := ⟨b24, 0, none⟩) (a' := ⟨b24, 0, none⟩) fo122_0 (T rfl rfl) rfl) ?_
   refine aw_load 6 (.agg #[.bool nr6, .slice A7 n8 c9]) rfl (by kernel_rfl) (.yes (d := 10) rfl rfl (congrArg Value.bool (decide_eq_true hb43))) H42 (fun _ s => dv_loads (l := [.bool nr6, .slice A7 n8 c9]) agt120 sz120 (T rfl rfl) s rfl) ?_
   refine aw_pure 8 (.pointer (some ⟨b24, 2, none⟩)) rfl (by kernel_rfl) (.yes (d := 10) rfl rfl (congrArg Value.bool (decide_eq_true hb43))) H42 (fun _ => dv_fieldAddr (a := ⟨b24, 0, none⟩) (a' := ⟨b24, 2, none⟩) fo122_1 (T rfl rfl) rfl) ?_
   refine aw_load 9 (.agg #[.bool nr10, .slice A11 n12 c13]) rfl (by kernel_rfl) (.yes (d := 10) rfl rfl (congrArg Value.bool (decide_eq_true hb43))) H42 (fun _ s => dv_loads (l := [.bool nr10, .slice A11 n12 c13]) agt120 sz120 (T rfl rfl) s rfl) ?_
   refine aw_pure 11 (.pointer (some ⟨b24, 4, none⟩)) rfl (by kernel_rfl) (.yes (d := 10) rfl rfl (congrArg Value.bool (decide_eq_true hb43))) H42 (fun _ => dv_fieldAddr (a := ⟨b24, 0, none⟩) (a' := ⟨b24, 4, none⟩) fo122_2 (T rfl rfl) rfl) ?_
   refine aw_load 12 (.agg #[.bool nr14, .slice A15 n16 c17]) rfl (by kernel_rfl) (.yes (d := 10) rfl rfl (congrArg Value.bool (decide_eq_true hb43))) H42 (fun _ s => dv_loads (l := [.bool nr14, .slice A15 n16 c17]) agt120 sz120 (T rfl rfl) s rfl) ?_
   have h44 := ((((h18.ext n26.ext).st s31 n26.blk (by decide)).ext d35.ext).ext e40)
   refine aw_one 7 rfl (by kernel_rfl) (.yes (d := 10) rfl rfl (congrArg Value.bool (decide_eq_true hb43))) (oe_callf (vs := [.agg #[.bool nr6, .slice A7 n8 c9]]) co133 (ar1 (T rfl rfl)) (nsize_num h44 (by first | omega | (simp; done) | (simp; omega))) ?_)
   rintro _ w45 ⟨rfl, e46⟩
   have E47 := below_ext E41 E41.size e46
   have H48 := (e46.blk H42)
   refine ⟨.inr H48, ?_⟩
   have h49 := (((((h19.ext n26.ext).st s31 n26.blk (by decide)).ext d35.ext).ext e40).ext e46)
   refine aw_one 10 rfl (by kernel_rfl) (.yes (d := 10) rfl rfl (congrArg Value.bool (decide_eq_true hb43))) (oe_callf (vs := [.agg #[.bool nr10, .slice A11 n12 c13]]) co133 (ar1 (T rfl rfl)) (nsize_num h49 (by first | omega | (simp; done) | (simp; omega))) ?_)
   rintro _ w50 ⟨rfl, e51⟩
   have E52 := below_ext E47 E47.size e51
   have H53 := (e51.blk H48)
   refine ⟨.inr H53, ?_⟩
   have h54 := (((h38.ext e40).ext e46).ext e51)
   refine aw_one 13 rfl (by kernel_rfl) (.yes (d := 10) rfl rfl (congrArg Value.bool (decide_eq_true hb43))) (oe_callf (vs := [.agg #[.bool nr14, .slice A15 n16 c17]]) co133 (ar1 (T rfl rfl)) (nsize_num h54 (by first | omega | (simp; done) | (simp; omega))) ?_)
   rintro _ w55 ⟨rfl, e56⟩
   have E57 := below_ext E52 E52.size e56
   have H58 := (e56.blk H53)
   refine ⟨.inr H58, ?_⟩
   refine aw_pure 14 (.int .i64 (mx (mx ((nbits (x).natAbs : Int)) ((nbits (y).natAbs : Int))) ((nbits (u).natAbs : Int)))) rfl (by kernel_rfl) (.yes (d := 10) rfl rfl (congrArg Value.bool (decide_eq_true hb43))) H58 (fun _ => dv_max3 (a := (nbits (x).natAbs : Int)) (b := (nbits (y).natAbs : Int)) (c := (nbits (u).natAbs : Int)) (T rfl rfl) (T rfl rfl) (T rfl rfl)) ?_
   refine aw_pure 15 (.bool (decide ((mx (mx ((nbits (x).natAbs : Int)) ((nbits (y).natAbs : Int))) ((nbits (u).natAbs : Int))) ≤ 80))) rfl (by kernel_rfl) (.yes (d := 10) rfl rfl (congrArg Value.bool (decide_eq_true hb43))) H58 (fun _ => dv_leq (a := mx (mx ((nbits (x).natAbs : Int)) ((nbits (y).natAbs : Int))) ((nbits (u).natAbs : Int))) (b := 80) (T rfl rfl) C) ?_
   refine aw_pure 16 (.bool (decide ((mx (mx ((nbits (x).natAbs : Int)) ((nbits (y).natAbs : Int))) ((nbits (u).natAbs : Int))) ≤ 80))) rfl (by kernel_rfl) .none H58 (fun _ => dv_pick_t (T rfl (congrArg Value.bool (decide_eq_true hb43))) (T rfl rfl)) ?_
   refine aw_pure 17 (.bool (decide ((mx (mx ((nbits (x).natAbs : Int)) ((nbits (y).natAbs : Int))) ((nbits (u).natAbs : Int))) ≤ 80))) rfl (by kernel_rfl) .none H58 (fun _ => dv_move (T rfl rfl)) ?_
   by_cases hb59 : (mx (mx ((nbits (x).natAbs : Int)) ((nbits (y).natAbs : Int))) ((nbits (u).natAbs : Int))) ≤ 80
   · refine aw_pure 18 (.pointer (some ⟨b24, 0, none⟩)) rfl (by kernel_rfl) (.yes (d := 23) rfl rfl (congrArg Value.bool (decide_eq_true hb59))) H58 (fun _ => dv_fieldAddr (a := ⟨b24, 0, none⟩) (a' := ⟨b24, 0, none⟩) fo122_0 (T rfl rfl) rfl) ?_
     refine aw_load 19 (.agg #[.bool nr6, .slice A7 n8 c9]) rfl (by kernel_rfl) (.yes (d := 23) rfl rfl (congrArg Value.bool (decide_eq_true hb59))) H58 (fun _ s => dv_loads (l := [.bool nr6, .slice A7 n8 c9]) agt120 sz120 (T rfl rfl) s rfl) ?_
     refine aw_pure 20 (.pointer (some ⟨b24, 2, none⟩)) rfl (by kernel_rfl) (.yes (d := 23) rfl rfl (congrArg Value.bool (decide_eq_true hb59))) H58 (fun _ => dv_fieldAddr (a := ⟨b24, 0, none⟩) (a' := ⟨b24, 2, none⟩) fo122_1 (T rfl rfl) rfl) ?_
     refine aw_load 21 (.agg #[.bool nr10, .slice A11 n12 c13]) rfl (by kernel_rfl) (.yes (d := 23) rfl rfl (congrArg Value.bool (decide_eq_true hb59))) H58 (fun _ s => dv_loads (l := [.bool nr10, .slice A11 n12 c13]) agt120 sz120 (T rfl rfl) s rfl) ?_
     refine aw_pure 22 (.pointer (some ⟨b24, 4, none⟩)) rfl (by kernel_rfl) (.yes (d := 23) rfl rfl (congrArg Value.bool (decide_eq_true hb59))) H58 (fun _ => dv_fieldAddr (a := ⟨b24, 0, none⟩) (a' := ⟨b24, 4, none⟩) fo122_2 (T rfl rfl) rfl) ?_
     refine aw_load 23 (.agg #[.bool nr14, .slice A15 n16 c17]) rfl (by kernel_rfl) (.yes (d := 23) rfl rfl (congrArg Value.bool (decide_eq_true hb59))) H58 (fun _ s => dv_loads (l := [.bool nr14, .slice A15 n16 c17]) agt120 sz120 (T rfl rfl) s rfl) ?_
     refine aw_one 24 rfl (by kernel_rfl) (.yes (d := 23) rfl rfl (congrArg Value.bool (decide_eq_true hb59))) (oe_buildSlice (pv := [(0, .agg #[.bool nr6, .slice A7 n8 c9]), (1, .agg #[.bool nr10, .slice A11 n12 c13]), (2, .agg #[.bool nr14, .slice A15 n16 c17])]) (init := [.bool false, .slice none 0 0, .bool false, .slice none 0 0, .bool false, .slice none 0 0]) (l := [.bool nr6, .slice A7 n8 c9, .bool nr10, .slice A11 n12 c13, .bool nr14, .slice A15 n16 c17]) us197 sz120 rfl rfl zc120 (by kernel_rfl) ⟨rfl, (T rfl rfl), ⟨rfl, (T rfl rfl), ⟨rfl, (T rfl rfl), trivial⟩⟩⟩ rfl ?_)
     intro b60 w61 n62
     have N63 : w.heap.size ≤ b60 := n62.eq ▸ E57.size
     have : b24 < b60 := n62.eq ▸ lt_of_blk H58
     have E64 := below_ext E57 E57.size n62.ext
     have H65 := (n62.ext.blk H58)
     refine ⟨.inr H65, ?_⟩
     have h66 := ((((h44.ext e46).ext e51).ext e56).ext n62.ext)
     have h67 := (((h49.ext e51).ext e56).ext n62.ext)
     have h68 := ((h54.ext e56).ext n62.ext)
     refine aw_one 25 rfl (by kernel_rfl) (.yes (d := 23) rfl rfl (congrArg Value.bool (decide_eq_true hb59))) (oe_callf (vs := [.slice (some ⟨b60, 0, none⟩) 3 3]) co134 (ar1 (T rfl rfl)) (gcd3_ok h66 h67 h68 (by first | decide | omega) (by first | decide | omega) (by first | decide | omega) n62.blk) ?_)
     rintro _ w74 ⟨nr69, A70, n71, c72, rfl, e75, h73⟩
     have E76 := below_ext E64 E64.size e75
     have lh73 := Num.len (by decide) h73
     have H77 := (e75.blk H65)
     refine ⟨.inr H77, ?_⟩
     refine aw_one 26 rfl (by kernel_rfl) (.yes (d := 23) rfl rfl (congrArg Value.bool (decide_eq_true hb59))) (oe_callf (vs := [.int .i64 1]) co92 (ar1 C) (whole_ok  (by omega)) ?_)
     rintro _ w83 ⟨nr78, A79, n80, c81, rfl, e84, h82⟩
     have E85 := below_ext E76 E76.size e84
     have lh82 := Num.len (by decide) h82
     have H86 := (e84.blk H77)
     refine ⟨.inr H86, ?_⟩
     have h87 := (h73.ext e84)
     refine aw_one 27 rfl (by kernel_rfl) (.yes (d := 23) rfl rfl (congrArg Value.bool (decide_eq_true hb59))) (oe_callf (vs := [.agg #[.bool nr69, .slice A70 n71 c72], .agg #[.bool nr78, .slice A79 n80 c81]]) co91 (ar2 (T rfl rfl) (T rfl rfl)) (ncmp_ok h87 h82 (by first | decide | omega) (by first | decide | omega)) ?_)
     rintro _ w88 ⟨rfl, e89⟩
     have E90 := below_ext E85 E85.size e89
     have H91 := (e89.blk H86)
     refine ⟨.inr H91, ?_⟩
     refine aw_pure 28 (.bool (decide ((sgnI ((gI3 x y u) - 1)) = 0))) rfl (by kernel_rfl) (.yes (d := 23) rfl rfl (congrArg Value.bool (decide_eq_true hb59))) H91 (fun _ => dv_eql (a := sgnI ((gI3 x y u) - 1)) (b := 0) (T rfl rfl) C) ?_
     refine aw_pure 29 (.bool (decide ((sgnI ((gI3 x y u) - 1)) = 0))) rfl (by kernel_rfl) .none H91 (fun _ => dv_pick_t (T rfl (congrArg Value.bool (decide_eq_true hb59))) (T rfl rfl)) ?_
     refine aw_last 30 (.bool (decide ((sgnI ((gI3 x y u) - 1)) = 0))) rfl (by kernel_rfl) .none (fun _ => dv_assign (T rfl rfl)) ?_
     refine aw_done (by kernel_rfl) ?_
     refine rk_ret Try.func75 (v := .bool (decide ((sgnI ((gI3 x y u) - 1)) = 0))) (res1 Try.results75 (rv_tmp rfl rfl)) ⟨_, rfl, ?_⟩
     have h1 : sm3 x y u := by first | assumption | exact sm3_iff.2 (mx3.1 ‹_›)
     have h2 : 0 < u := sgnI_gt.1 (by assumption)
     have h3 := @sgnI_zero (gI3 x y u - 1)
     exact ⟨(vb ⟨fun hh => ⟨h2, h1, by have := h3.1 hh; omega⟩, fun hh => h3.2 (by have := hh.2.2; omega)⟩), E90⟩
   · refine aw_no 18 rfl (by kernel_rfl) (d := 23) rfl rfl (congrArg Value.bool (decide_eq_false hb59)) H58 ?_
     refine aw_no 19 rfl (by kernel_rfl) (d := 23) rfl rfl (congrArg Value.bool (decide_eq_false hb59)) H58 ?_
     refine aw_no 20 rfl (by kernel_rfl) (d := 23) rfl rfl (congrArg Value.bool (decide_eq_false hb59)) H58 ?_
     refine aw_no 21 rfl (by kernel_rfl) (d := 23) rfl rfl (congrArg Value.bool (decide_eq_false hb59)) H58 ?_
     refine aw_no 22 rfl (by kernel_rfl) (d := 23) rfl rfl (congrArg Value.bool (decide_eq_false hb59)) H58 ?_
     refine aw_no 23 rfl (by kernel_rfl) (d := 23) rfl rfl (congrArg Value.bool (decide_eq_false hb59)) H58 ?_
     refine aw_no 24 rfl (by kernel_rfl) (d := 23) rfl rfl (congrArg Value.bool (decide_eq_false hb59)) H58 ?_
     refine aw_no 25 rfl (by kernel_rfl) (d := 23) rfl rfl (congrArg Value.bool (decide_eq_false hb59)) H58 ?_
     refine aw_no 26 rfl (by kernel_rfl) (d := 23) rfl rfl (congrArg Value.bool (decide_eq_false hb59)) H58 ?_
     refine aw_no 27 rfl (by kernel_rfl) (d := 23) rfl rfl (congrArg Value.bool (decide_eq_false hb59)) H58 ?_
     refine aw_no 28 rfl (by kernel_rfl) (d := 23) rfl rfl (congrArg Value.bool (decide_eq_false hb59)) H58 ?_
     refine aw_pure 29 (.bool false) rfl (by kernel_rfl) .none H58 (fun _ => dv_pick_f (T rfl (congrArg Value.bool (decide_eq_false hb59))) C) ?_
     refine aw_last 30 (.bool false) rfl (by kernel_rfl) .none (fun _ => dv_assign (T rfl rfl)) ?_
     refine aw_done (by kernel_rfl) ?_
     refine rk_ret Try.func75 (v := .bool false) (res1 Try.results75 (rv_tmp rfl rfl)) ⟨_, rfl, ?_⟩
     exact ⟨(vf (by intro hh; have h1 := sgnI_gt.2 hh.1; have h2 := hh.2.1; first | (exact absurd h2 (by assumption)) | (exact absurd (mx3.2 (sm3_iff.1 h2)) (by assumption)) | contradiction | omega)), E57⟩
 · refine aw_no 5 rfl (by kernel_rfl) (d := 10) rfl rfl (congrArg Value.bool (decide_eq_false hb43)) H42 ?_
   refine aw_no 6 rfl (by kernel_rfl) (d := 10) rfl rfl (congrArg Value.bool (decide_eq_false hb43)) H42 ?_
   refine aw_no 7 rfl (by kernel_rfl) (d := 10) rfl rfl (congrArg Value.bool (decide_eq_false hb43)) H42 ?_
   refine aw_no 8 rfl (by kernel_rfl) (d := 10) rfl rfl (congrArg Value.bool (decide_eq_false hb43)) H42 ?_
   refine aw_no 9 rfl (by kernel_rfl) (d := 10) rfl rfl (congrArg Value.bool (decide_eq_false hb43)) H42 ?_
   refine aw_no 10 rfl (by kernel_rfl) (d := 10) rfl rfl (congrArg Value.bool (decide_eq_false hb43)) H42 ?_
   refine aw_no 11 rfl (by kernel_rfl) (d := 10) rfl rfl (congrArg Value.bool (decide_eq_false hb43)) H42 ?_
   refine aw_no 12 rfl (by kernel_rfl) (d := 10) rfl rfl (congrArg Value.bool (decide_eq_false hb43)) H42 ?_
   refine aw_no 13 rfl (by kernel_rfl) (d := 10) rfl rfl (congrArg Value.bool (decide_eq_false hb43)) H42 ?_
   refine aw_no 14 rfl (by kernel_rfl) (d := 10) rfl rfl (congrArg Value.bool (decide_eq_false hb43)) H42 ?_
   refine aw_no 15 rfl (by kernel_rfl) (d := 10) rfl rfl (congrArg Value.bool (decide_eq_false hb43)) H42 ?_
   refine aw_pure 16 (.bool false) rfl (by kernel_rfl) .none H42 (fun _ => dv_pick_f (T rfl (congrArg Value.bool (decide_eq_false hb43))) C) ?_
   refine aw_pure 17 (.bool false) rfl (by kernel_rfl) .none H42 (fun _ => dv_move (T rfl rfl)) ?_
   refine aw_no 18 rfl (by kernel_rfl) (d := 23) rfl rfl (rfl) H42 ?_
   refine aw_no 19 rfl (by kernel_rfl) (d := 23) rfl rfl (rfl) H42 ?_
   refine aw_no 20 rfl (by kernel_rfl) (d := 23) rfl rfl (rfl) H42 ?_
   refine aw_no 21 rfl (by kernel_rfl) (d := 23) rfl rfl (rfl) H42 ?_
   refine aw_no 22 rfl (by kernel_rfl) (d := 23) rfl rfl (rfl) H42 ?_
   refine aw_no 23 rfl (by kernel_rfl) (d := 23) rfl rfl (rfl) H42 ?_
   refine aw_no 24 rfl (by kernel_rfl) (d := 23) rfl rfl (rfl) H42 ?_
   refine aw_no 25 rfl (by kernel_rfl) (d := 23) rfl rfl (rfl) H42 ?_
   refine aw_no 26 rfl (by kernel_rfl) (d := 23) rfl rfl (rfl) H42 ?_
   refine aw_no 27 rfl (by kernel_rfl) (d := 23) rfl rfl (rfl) H42 ?_
   refine aw_no 28 rfl (by kernel_rfl) (d := 23) rfl rfl (rfl) H42 ?_
   refine aw_pure 29 (.bool false) rfl (by kernel_rfl) .none H42 (fun _ => dv_pick_f (T rfl rfl) C) ?_
   refine aw_last 30 (.bool false) rfl (by kernel_rfl) .none (fun _ => dv_assign (T rfl rfl)) ?_
   refine aw_done (by kernel_rfl) ?_
   refine rk_ret Try.func75 (v := .bool false) (res1 Try.results75 (rv_tmp rfl rfl)) ⟨_, rfl, ?_⟩
   exact ⟨(vf (by intro hh; have h1 := sgnI_gt.2 hh.1; have h2 := hh.2.1; first | (exact absurd h2 (by assumption)) | (exact absurd (mx3.2 (sm3_iff.1 h2)) (by assumption)) | contradiction | omega)), E41⟩
set_option maxHeartbeats 1000000 in
theorem areP2_ok {w : World} {bl : Nat} {x y u p q r : Int} (fx_ : fits x) (fy_ : fits y) (fu_ : fits u) (fp_ : fits p) (fq_ : fits q) (fr_ : fits r) (hL : w.heap[bl]? = some (.cells #[.int .u64 (wv3 x), .int .u64 (wv2 x), .int .u64 (wv1 x), .int .u64 (wv0 x), .int .u64 (wv3 y), .int .u64 (wv2 y), .int .u64 (wv1 y), .int .u64 (wv0 y), .int .u64 (wv3 u), .int .u64 (wv2 u), .int .u64 (wv1 u), .int .u64 (wv0 u), .int .u64 (wv3 p), .int .u64 (wv2 p), .int .u64 (wv1 p), .int .u64 (wv0 p), .int .u64 (wv3 q), .int .u64 (wv2 q), .int .u64 (wv1 q), .int .u64 (wv0 q), .int .u64 (wv3 r), .int .u64 (wv2 r), .int .u64 (wv1 r), .int .u64 (wv0 r)] 37)) : Ct Try.prog 71 [.slice (some ⟨bl, 0, none⟩) 2 2] w fun v w1 => v = .bool (decide (pOk x y u ∧ pOk p q r)) ∧ Ext w w1 := by
 refine ct_run (n := 15) Try.func71 rfl Try.ntmps71 rfl ?_
 have E0 : Below w.heap.size w w := Below.refl _ _
 refine rk_seq ?_
 refine rk_reg ?_
 refine lw_v (.bool false) (dv_assign C) ?_
 refine lw_nil ?_
 refine rk_seq ?_
 refine rk_seq ?_
 refine rk_reg ?_
 refine lw_v (.slice (some ⟨bl, 0, none⟩) 2 2) (dv_move (T rfl rfl)) ?_
 refine lw_v (.int .i64 2) (dv_len (ad := some ⟨bl, 0, none⟩) (l := 2) (c := 2) us156 (T rfl rfl)) ?_
 refine lw_v (.int .i64 0) (dv_move C) ?_
 refine lw_nil ?_
 refine rk_block ?_
 refine rk_unroll ?_
 refine rk_seq ?_
 refine rk_reg ?_
 refine lw_v (.bool (decide (((0 : Int) < 2 : Prop)))) (dv_lss (a := 0) (b := 2) (T rfl rfl) (T rfl rfl)) ?_
 refine lw_nil ?_
 refine rk_seq ?_
 refine rk_ct (T rfl (rfl)) ?_
 refine rk_skip ?_
 refine rk_seq ?_
 refine rk_block ?_
 refine rk_seq ?_
 refine rk_reg ?_
 refine lw_v (.pointer (some ⟨bl, 0, none⟩)) (dv_indexAddr (a := ⟨bl, 0, none⟩) (a' := ⟨bl, 0, none⟩) (l := 2) (c := 2) (j := 0) us156 sz37 (T rfl rfl) (T rfl rfl) (by decide) (by decide) rfl) ?_
 refine lw_v (.agg #[.int .u64 (wv3 x), .int .u64 (wv2 x), .int .u64 (wv1 x), .int .u64 (wv0 x), .int .u64 (wv3 y), .int .u64 (wv2 y), .int .u64 (wv1 y), .int .u64 (wv0 y), .int .u64 (wv3 u), .int .u64 (wv2 u), .int .u64 (wv1 u), .int .u64 (wv0 u)]) (dv_loads (l := [.int .u64 (wv3 x), .int .u64 (wv2 x), .int .u64 (wv1 x), .int .u64 (wv0 x), .int .u64 (wv3 y), .int .u64 (wv2 y), .int .u64 (wv1 y), .int .u64 (wv0 y), .int .u64 (wv3 u), .int .u64 (wv2 u), .int .u64 (wv1 u), .int .u64 (wv0 u)]) agt37 sz37 (T rfl rfl) hL rfl) ?_
 refine lw_e (oe_alloc ze37 ?_)
 intro b1 w2 n3
 have N4 : w.heap.size ≤ b1 := n3.eq ▸ E0.size
 have : bl < b1 := n3.eq ▸ lt_of_blk hL
 have E5 := below_ext E0 E0.size n3.ext
 refine lw_e (oe_store (v := .agg #[.int .u64 (wv3 x), .int .u64 (wv2 x), .int .u64 (wv1 x), .int .u64 (wv0 x), .int .u64 (wv3 y), .int .u64 (wv2 y), .int .u64 (wv1 y), .int .u64 (wv0 y), .int .u64 (wv3 u), .int .u64 (wv2 u), .int .u64 (wv1 u), .int .u64 (wv0 u)]) (vs := [.int .u64 (wv3 x), .int .u64 (wv2 x), .int .u64 (wv1 x), .int .u64 (wv0 x), .int .u64 (wv3 y), .int .u64 (wv2 y), .int .u64 (wv1 y), .int .u64 (wv0 y), .int .u64 (wv3 u), .int .u64 (wv2 u), .int .u64 (wv1 u), .int .u64 (wv0 u)]) (l := [.int .u64 (wv3 x), .int .u64 (wv2 x), .int .u64 (wv1 x), .int .u64 (wv0 x), .int .u64 (wv3 y), .int .u64 (wv2 y), .int .u64 (wv1 y), .int .u64 (wv0 y), .int .u64 (wv3 u), .int .u64 (wv2 u), .int .u64 (wv1 u), .int .u64 (wv0 u)]) (T rfl rfl) (T rfl rfl) sz37 rfl rfl rfl n3.blk rfl ?_)
 intro w6 s7 H8
 have E9 := below_st E5 N4 s7
 refine lw_nil ?_
 refine rk_seq ?_
 refine rk_reg ?_
 refine lw_v (.agg #[.int .u64 (wv3 x), .int .u64 (wv2 x), .int .u64 (wv1 x), .int .u64 (wv0 x), .int .u64 (wv3 y), .int .u64 (wv2 y), .int .u64 (wv1 y), .int .u64 (wv0 y), .int .u64 (wv3 u), .int .u64 (wv2 u), .int .u64 (wv1 u), .int .u64 (wv0 u)]) (dv_loads (l := [.int .u64 (wv3 x), .int .u64 (wv2 x), .int .u64 (wv1 x), .int .u64 (wv0 x), .int .u64 (wv3 y), .int .u64 (wv2 y), .int .u64 (wv1 y), .int .u64 (wv0 y), .int .u64 (wv3 u), .int .u64 (wv2 u), .int .u64 (wv1 u), .int .u64 (wv0 u)]) agt37 sz37 (T rfl rfl) H8 rfl) ?_
 refine lw_e (oe_callf (vs := [.agg #[.int .u64 (wv3 x), .int .u64 (wv2 x), .int .u64 (wv1 x), .int .u64 (wv0 x), .int .u64 (wv3 y), .int .u64 (wv2 y), .int .u64 (wv1 y), .int .u64 (wv0 y), .int .u64 (wv3 u), .int .u64 (wv2 u), .int .u64 (wv1 u), .int .u64 (wv0 u)]]) co75 (ar1 (T rfl rfl)) (iPointOk_ok (x := x) (y := y) (u := u) fx_ fy_ fu_ ) ?_)
 rintro _ w10 ⟨rfl, e11⟩
 have E12 := below_ext E9 E9.size e11
 refine lw_v (.bool (decide (¬ (pOk x y u)))) (dv_notd (p := pOk x y u) (T rfl rfl)) ?_
 refine lw_nil ?_
 by_cases hb13 : pOk x y u
 · refine rk_cf (T rfl (congrArg Value.bool (decide_eq_false (not_not_intro hb13)))) ?_
   refine rk_skip ?_
   refine rk_inBlock ?_
   refine rk_reg ?_
   refine lw_v (.int .i64 1) (dv_add (a := 0) (b := 1) (z := 1) (T rfl rfl) C (by decide)) ?_
   refine lw_v (.int .i64 1) (dv_move (T rfl rfl)) ?_
   refine lw_nil ?_
   refine rk_inLoop ?_
   refine rk_seq ?_
   refine rk_reg ?_
   refine lw_v (.bool (decide (((1 : Int) < 2 : Prop)))) (dv_lss (a := 1) (b := 2) (T rfl rfl) (T rfl rfl)) ?_
   refine lw_nil ?_
   refine rk_seq ?_
   refine rk_ct (T rfl (rfl)) ?_
   refine rk_skip ?_
   refine rk_seq ?_
   refine rk_block ?_
   refine rk_seq ?_
   refine rk_reg ?_
   refine lw_v (.pointer (some ⟨bl, 12, none⟩)) (dv_indexAddr (a := ⟨bl, 0, none⟩) (a' := ⟨bl, 12, none⟩) (l := 2) (c := 2) (j := 1) us156 sz37 (T rfl rfl) (T rfl rfl) (by decide) (by decide) rfl) ?_
   have H14 := (e11.blk (s7.blk (n3.ext.blk hL) (by omega)))
   refine lw_v (.agg #[.int .u64 (wv3 p), .int .u64 (wv2 p), .int .u64 (wv1 p), .int .u64 (wv0 p), .int .u64 (wv3 q), .int .u64 (wv2 q), .int .u64 (wv1 q), .int .u64 (wv0 q), .int .u64 (wv3 r), .int .u64 (wv2 r), .int .u64 (wv1 r), .int .u64 (wv0 r)]) (dv_loads (l := [.int .u64 (wv3 p), .int .u64 (wv2 p), .int .u64 (wv1 p), .int .u64 (wv0 p), .int .u64 (wv3 q), .int .u64 (wv2 q), .int .u64 (wv1 q), .int .u64 (wv0 q), .int .u64 (wv3 r), .int .u64 (wv2 r), .int .u64 (wv1 r), .int .u64 (wv0 r)]) agt37 sz37 (T rfl rfl) H14 rfl) ?_
   refine lw_e (oe_alloc ze37 ?_)
   intro b15 w16 n17
   have N18 : w.heap.size ≤ b15 := n17.eq ▸ E12.size
   have H19 := (e11.blk H8)
   have : b1 < b15 := n17.eq ▸ lt_of_blk H19
   have E20 := below_ext E12 E12.size n17.ext
   refine lw_e (oe_store (v := .agg #[.int .u64 (wv3 p), .int .u64 (wv2 p), .int .u64 (wv1 p), .int .u64 (wv0 p), .int .u64 (wv3 q), .int .u64 (wv2 q), .int .u64 (wv1 q), .int .u64 (wv0 q), .int .u64 (wv3 r), .int .u64 (wv2 r), .int .u64 (wv1 r), .int .u64 (wv0 r)]) (vs := [.int .u64 (wv3 p), .int .u64 (wv2 p), .int .u64 (wv1 p), .int .u64 (wv0 p), .int .u64 (wv3 q), .int .u64 (wv2 q), .int .u64 (wv1 q), .int .u64 (wv0 q), .int .u64 (wv3 r), .int .u64 (wv2 r), .int .u64 (wv1 r), .int .u64 (wv0 r)]) (l := [.int .u64 (wv3 p), .int .u64 (wv2 p), .int .u64 (wv1 p), .int .u64 (wv0 p), .int .u64 (wv3 q), .int .u64 (wv2 q), .int .u64 (wv1 q), .int .u64 (wv0 q), .int .u64 (wv3 r), .int .u64 (wv2 r), .int .u64 (wv1 r), .int .u64 (wv0 r)]) (T rfl rfl) (T rfl rfl) sz37 rfl rfl rfl n17.blk rfl ?_)
   intro w21 s22 H23
   have E24 := below_st E20 N18 s22
   refine lw_nil ?_
   refine rk_seq ?_
   refine rk_reg ?_
   refine lw_v (.agg #[.int .u64 (wv3 p), .int .u64 (wv2 p), .int .u64 (wv1 p), .int .u64 (wv0 p), .int .u64 (wv3 q), .int .u64 (wv2 q), .int .u64 (wv1 q), .int .u64 (wv0 q), .int .u64 (wv3 r), .int .u64 (wv2 r), .int .u64 (wv1 r), .int .u64 (wv0 r)]) (dv_loads (l := [.int .u64 (wv3 p), .int .u64 (wv2 p), .int .u64 (wv1 p), .int .u64 (wv0 p), .int .u64 (wv3 q), .int .u64 (wv2 q), .int .u64 (wv1 q), .int .u64 (wv0 q), .int .u64 (wv3 r), .int .u64 (wv2 r), .int .u64 (wv1 r), .int .u64 (wv0 r)]) agt37 sz37 (T rfl rfl) H23 rfl) ?_
   refine lw_e (oe_callf (vs := [.agg #[.int .u64 (wv3 p), .int .u64 (wv2 p), .int .u64 (wv1 p), .int .u64 (wv0 p), .int .u64 (wv3 q), .int .u64 (wv2 q), .int .u64 (wv1 q), .int .u64 (wv0 q), .int .u64 (wv3 r), .int .u64 (wv2 r), .int .u64 (wv1 r), .int .u64 (wv0 r)]]) co75 (ar1 (T rfl rfl)) (iPointOk_ok (x := p) (y := q) (u := r) fp_ fq_ fr_ ) ?_)
   rintro _ w25 ⟨rfl, e26⟩
   have E27 := below_ext E24 E24.size e26
   refine lw_v (.bool (decide (¬ (pOk p q r)))) (dv_notd (p := pOk p q r) (T rfl rfl)) ?_
   refine lw_nil ?_
   by_cases hb28 : pOk p q r
   · refine rk_cf (T rfl (congrArg Value.bool (decide_eq_false (not_not_intro hb28)))) ?_
     refine rk_skip ?_
     refine rk_inBlock ?_
     refine rk_reg ?_
     refine lw_v (.int .i64 2) (dv_add (a := 1) (b := 1) (z := 2) (T rfl rfl) C (by decide)) ?_
     refine lw_v (.int .i64 2) (dv_move (T rfl rfl)) ?_
     refine lw_nil ?_
     refine rk_inLoop ?_
     refine rk_seq ?_
     refine rk_reg ?_
     refine lw_v (.bool (decide (((2 : Int) < 2 : Prop)))) (dv_lss (a := 2) (b := 2) (T rfl rfl) (T rfl rfl)) ?_
     refine lw_nil ?_
     refine rk_seq ?_
     refine rk_cf (T rfl (rfl)) ?_
     refine rk_exit rfl ?_
     refine rk_seq ?_
     refine rk_reg ?_
     refine lw_v (.bool true) (dv_assign C) ?_
     refine lw_nil ?_
     refine rk_ret Try.func71 (v := .bool true) (res1 Try.results71 (rv_tmp rfl rfl)) ⟨_, rfl, ?_⟩
     exact ⟨(vt (by first | assumption | exact ⟨(by first | assumption | simpa using ‹_›), (by first | assumption | simpa using ‹_›)⟩)), E27⟩
   · refine rk_ct (T rfl (congrArg Value.bool (decide_eq_true hb28))) ?_
     refine rk_seq ?_
     refine rk_reg ?_
     refine lw_v (.bool false) (dv_assign C) ?_
     refine lw_nil ?_
     refine rk_ret Try.func71 (v := .bool false) (res1 Try.results71 (rv_tmp rfl rfl)) ⟨_, rfl, ?_⟩
     exact ⟨(vf (by first | assumption | (intro hh; first | exact absurd hh (by assumption) | exact absurd hh.1 (by assumption) | exact absurd hh.2 (by assumption) | exact absurd hh.2.1 (by assumption) | exact absurd hh.2.2 (by assumption)))), E27⟩
 · refine rk_ct (T rfl (congrArg Value.bool (decide_eq_true hb13))) ?_
   refine rk_seq ?_
   refine rk_reg ?_
   refine lw_v (.bool false) (dv_assign C) ?_
   refine lw_nil ?_
   refine rk_ret Try.func71 (v := .bool false) (res1 Try.results71 (rv_tmp rfl rfl)) ⟨_, rfl, ?_⟩
   exact ⟨(vf (by first | assumption | (intro hh; first | exact absurd hh (by assumption) | exact absurd hh.1 (by assumption) | exact absurd hh.2 (by assumption) | exact absurd hh.2.1 (by assumption) | exact absurd hh.2.2 (by assumption)))), E12⟩
end Go.Proofs.Ytdanhdbanfpghaa.W
set_option linter.unusedVariables false
set_option linter.unusedSimpArgs false
namespace Go.Proofs.Ytdanhdbanfpghaa.W
open Go Go.RowKit Go.Proofs.Ytdanhdbanfpghaa.Fw
attribute [local irreducible] RunK LW AW DV OE Ct
theorem co67 : callOk Try.prog 67 = true := by kernel_rfl
theorem co71 : callOk Try.prog 71 = true := by kernel_rfl
theorem zc37 : zcB Try.prog 37 = some [.int .u64 0, .int .u64 0, .int .u64 0, .int .u64 0, .int .u64 0, .int .u64 0, .int .u64 0, .int .u64 0, .int .u64 0, .int .u64 0, .int .u64 0, .int .u64 0] := by kernel_rfl
end Go.Proofs.Ytdanhdbanfpghaa.W
set_option linter.unusedVariables false
set_option linter.unusedSimpArgs false
namespace Go.Proofs.Ytdanhdbanfpghaa.W
open Go Go.RowKit Go.Proofs.Ytdanhdbanfpghaa.Fw
attribute [local irreducible] RunK LW AW DV OE Ct
theorem agt33 : aggB Try.prog 33 = some true := by kernel_rfl
theorem co21 : callOk Try.prog 21 = true := by kernel_rfl
theorem sz33 : sizeB Try.prog 33 = some 12 := by kernel_rfl
end Go.Proofs.Ytdanhdbanfpghaa.W
set_option linter.unusedVariables false
set_option linter.unusedSimpArgs false
namespace Go.Proofs.Ytdanhdbanfpghaa.W
open Go Go.RowKit Go.Proofs.Ytdanhdbanfpghaa.Fw
attribute [local irreducible] RunK LW AW DV OE Ct
theorem co162 : callOk Try.prog 162 = true := by kernel_rfl
end Go.Proofs.Ytdanhdbanfpghaa.W
set_option linter.unusedVariables false
set_option linter.unusedSimpArgs false
namespace Go.Proofs.Ytdanhdbanfpghaa.W
open Go Go.RowKit Go.Proofs.Ytdanhdbanfpghaa.Fw
attribute [local irreducible] RunK LW AW DV OE Ct
theorem co103 : callOk Try.prog 103 = true := by kernel_rfl
theorem co150 : callOk Try.prog 150 = true := by kernel_rfl
theorem co152 : callOk Try.prog 152 = true := by kernel_rfl
theorem co161 : callOk Try.prog 161 = true := by kernel_rfl
end Go.Proofs.Ytdanhdbanfpghaa.W
set_option linter.unusedVariables false
set_option linter.unusedSimpArgs false
namespace Go.Proofs.Ytdanhdbanfpghaa.W
open Go Go.RowKit Go.Proofs.Ytdanhdbanfpghaa.Fw
attribute [local irreducible] RunK LW AW DV OE Ct
theorem agt136 : aggB Try.prog 136 = some true := by kernel_rfl
theorem agt139 : aggB Try.prog 139 = some true := by kernel_rfl
theorem agt68 : aggB Try.prog 68 = some true := by kernel_rfl
theorem co163 : callOk Try.prog 163 = true := by kernel_rfl
theorem fo136_0 : fieldOffB Try.prog 136 0 = some 0 := by kernel_rfl
theorem fo136_1 : fieldOffB Try.prog 136 1 = some 2 := by kernel_rfl
theorem fo139_0 : fieldOffB Try.prog 139 0 = some 0 := by kernel_rfl
theorem fo139_1 : fieldOffB Try.prog 139 1 = some 2 := by kernel_rfl
theorem fo68_0 : fieldOffB Try.prog 68 0 = some 0 := by kernel_rfl
theorem fo68_1 : fieldOffB Try.prog 68 1 = some 4 := by kernel_rfl
theorem pl136 : placesB Try.prog 136 = some [(0, 2), (2, 2)] := by kernel_rfl
theorem pl139 : placesB Try.prog 139 = some [(0, 2), (2, 2)] := by kernel_rfl
theorem pl68 : placesB Try.prog 68 = some [(0, 4), (4, 4)] := by kernel_rfl
theorem sz136 : sizeB Try.prog 136 = some 4 := by kernel_rfl
theorem sz139 : sizeB Try.prog 139 = some 4 := by kernel_rfl
theorem sz68 : sizeB Try.prog 68 = some 8 := by kernel_rfl
theorem zc136 : zcB Try.prog 136 = some [.bool false, .slice none 0 0, .bool false, .slice none 0 0] := by kernel_rfl
theorem zc139 : zcB Try.prog 139 = some [.bool false, .slice none 0 0, .bool false, .slice none 0 0] := by kernel_rfl
theorem zc68 : zcB Try.prog 68 = some [.int .u64 0, .int .u64 0, .int .u64 0, .int .u64 0, .int .u64 0, .int .u64 0, .int .u64 0, .int .u64 0] := by kernel_rfl
theorem ze136 : zeroB Try.prog 136 = some #[.bool false, .slice none 0 0, .bool false, .slice none 0 0] := by kernel_rfl
theorem ze139 : zeroB Try.prog 139 = some #[.bool false, .slice none 0 0, .bool false, .slice none 0 0] := by kernel_rfl
theorem ze68 : zeroB Try.prog 68 = some #[.int .u64 0, .int .u64 0, .int .u64 0, .int .u64 0, .int .u64 0, .int .u64 0, .int .u64 0, .int .u64 0] := by kernel_rfl
set_option maxHeartbeats 1000000 in
theorem lowest_ok {w : World}  {na : Bool} {Aa : Option Addr} {la ca : Nat} {x : Int} {sx : Nat} (ha : Num 64 29 .u64 w na Aa la ca x sx) {nb : Bool} {Ab : Option Addr} {lb cb : Nat} {y : Int} {sy : Nat} (hb : Num 64 29 .u64 w nb Ab lb cb y sy) (hbsx : sx ≤ 100000) (hbsy : sy ≤ 100000) (hy : y ≠ 0) : Ct Try.prog 163 [.agg #[.bool na, .slice Aa la ca, .bool nb, .slice Ab lb cb]] w fun v w1 => ∃ nr0_ A0_ l0_ c0_ nr1_ A1_ l1_ c1_, v = .agg #[.bool nr0_, .slice A0_ l0_ c0_, .bool nr1_, .slice A1_ l1_ c1_] ∧ Ext w w1 ∧ Num 64 29 .u64 w1 nr0_ A0_ l0_ c0_ (rUp x y) (sx) ∧ Num 64 29 .u64 w1 nr1_ A1_ l1_ c1_ (rDn x y) (sy) := by
 refine ct_run (n := 37) Try.func163 rfl Try.ntmps163 rfl ?_
 have E0 : Below w.heap.size w w := Below.refl _ _
 have lha := Num.len (by decide) ha
 have lhb := Num.len (by decide) hb
 refine rk_seq ?_
 refine rk_reg ?_
 refine lw_e (oe_box (v := .agg #[.bool na, .slice Aa la ca, .bool nb, .slice Ab lb cb]) (cs := #[.bool na, .slice Aa la ca, .bool nb, .slice Ab lb cb]) (T rfl rfl) rfl ?_)
 intro b1 w2 n3
 have N4 : w.heap.size ≤ b1 := n3.eq ▸ E0.size
 have E5 := below_ext E0 E0.size n3.ext
 refine lw_e (oe_alloc ze139 ?_)
 intro b6 w7 n8
 have N9 : w.heap.size ≤ b6 := n8.eq ▸ E5.size
 have : b1 < b6 := n8.eq ▸ lt_of_blk n3.blk
 have E10 := below_ext E5 E5.size n8.ext
 refine lw_nil ?_
 refine rk_seq ?_
 refine rk_reg ?_
 refine lw_v (.pointer (some ⟨b1, 0, none⟩)) (dv_fieldAddr (a := ⟨b1, 0, none⟩) (a' := ⟨b1, 0, none⟩) fo139_0 (T rfl rfl) rfl) ?_
 have H11 := (n8.ext.blk n3.blk)
 refine lw_v (.agg #[.bool na, .slice Aa la ca]) (dv_loads (l := [.bool na, .slice Aa la ca]) agt120 sz120 (T rfl rfl) H11 rfl) ?_
 refine lw_v (.pointer (some ⟨b1, 2, none⟩)) (dv_fieldAddr (a := ⟨b1, 0, none⟩) (a' := ⟨b1, 2, none⟩) fo139_1 (T rfl rfl) rfl) ?_
 refine lw_v (.agg #[.bool nb, .slice Ab lb cb]) (dv_loads (l := [.bool nb, .slice Ab lb cb]) agt120 sz120 (T rfl rfl) H11 rfl) ?_
 refine lw_e (oe_buildSlice (pv := [(0, .agg #[.bool na, .slice Aa la ca]), (1, .agg #[.bool nb, .slice Ab lb cb])]) (init := [.bool false, .slice none 0 0, .bool false, .slice none 0 0]) (l := [.bool na, .slice Aa la ca, .bool nb, .slice Ab lb cb]) us197 sz120 rfl rfl zc120 (by kernel_rfl) ⟨rfl, (T rfl rfl), ⟨rfl, (T rfl rfl), trivial⟩⟩ rfl ?_)
 intro b12 w13 n14
 have N15 : w.heap.size ≤ b12 := n14.eq ▸ E10.size
 have : b6 < b12 := n14.eq ▸ lt_of_blk n8.blk
 have E16 := below_ext E10 E10.size n14.ext
 have h17 := (((ha.ext n3.ext).ext n8.ext).ext n14.ext)
 have h18 := (((hb.ext n3.ext).ext n8.ext).ext n14.ext)
 refine lw_e (oe_callf (vs := [.slice (some ⟨b12, 0, none⟩) 2 2]) co134 (ar1 (T rfl rfl)) (gcd2_ok h17 h18 (by first | decide | omega) (by first | decide | omega) n14.blk) ?_)
 rintro _ w24 ⟨nr19, A20, n21, c22, rfl, e25, h23⟩
 have E26 := below_ext E16 E16.size e25
 have lh23 := Num.len (by decide) h23
 refine lw_e (oe_alloc ze120 ?_)
 intro b27 w28 n29
 have N30 : w.heap.size ≤ b27 := n29.eq ▸ E26.size
 have H31 := (e25.blk n14.blk)
 have : b12 < b27 := n29.eq ▸ lt_of_blk H31
 have E32 := below_ext E26 E26.size n29.ext
 refine lw_e (oe_store (v := .agg #[.bool nr19, .slice A20 n21 c22]) (vs := [.bool nr19, .slice A20 n21 c22]) (l := [.bool nr19, .slice A20 n21 c22]) (T rfl rfl) (T rfl rfl) sz120 rfl rfl rfl n29.blk rfl ?_)
 intro w33 s34 H35
 have E36 := below_st E32 N30 s34
 refine lw_nil ?_
 refine rk_seq ?_
 refine rk_reg ?_
 refine lw_v (.pointer (some ⟨b1, 0, none⟩)) (dv_fieldAddr (a := ⟨b1, 0, none⟩) (a' := ⟨b1, 0, none⟩) fo139_0 (T rfl rfl) rfl) ?_
 have H37 := (s34.blk (n29.ext.blk (e25.blk (n14.ext.blk H11))) (by omega))
 refine lw_v (.agg #[.bool na, .slice Aa la ca]) (dv_loads (l := [.bool na, .slice Aa la ca]) agt120 sz120 (T rfl rfl) H37 rfl) ?_
 refine lw_v (.agg #[.bool nr19, .slice A20 n21 c22]) (dv_loads (l := [.bool nr19, .slice A20 n21 c22]) agt120 sz120 (T rfl rfl) H35 rfl) ?_
 have h38 := ha.ext E36
 have h39 := ((h23.ext n29.ext).st s34 n29.blk (by decide))
 refine lw_e (oe_callf (vs := [.agg #[.bool na, .slice Aa la ca], .agg #[.bool nr19, .slice A20 n21 c22]]) co161 (ar2 (T rfl rfl) (T rfl rfl)) (over_ok h38 h39 (Int.ne_of_gt (gI_pos hy)) (by first | decide | omega) (by first | decide | omega)) ?_)
 rintro _ w50 ⟨nr40, A41, n42, c43, nr44, A45, n46, c47, rfl, e51, h48, h49⟩
 have E52 := below_ext E36 E36.size e51
 have lh48 := Num.len (by decide) h48
 have lh49 := Num.len (by decide) h49
 refine lw_v (.tuple #[.agg #[.bool nr40, .slice A41 n42 c43], .agg #[.bool nr44, .slice A45 n46 c47]]) (dv_move (T rfl rfl)) ?_
 refine lw_v (.agg #[.bool nr40, .slice A41 n42 c43]) (dv_extract (vs := #[.agg #[.bool nr40, .slice A41 n42 c43], .agg #[.bool nr44, .slice A45 n46 c47]]) (T rfl rfl) rfl) ?_
 refine lw_v (.agg #[.bool nr44, .slice A45 n46 c47]) (dv_extract (vs := #[.agg #[.bool nr40, .slice A41 n42 c43], .agg #[.bool nr44, .slice A45 n46 c47]]) (T rfl rfl) rfl) ?_
 refine lw_e (oe_alloc ze120 ?_)
 intro b53 w54 n55
 have N56 : w.heap.size ≤ b53 := n55.eq ▸ E52.size
 have H57 := (e51.blk H35)
 have : b27 < b53 := n55.eq ▸ lt_of_blk H57
 have E58 := below_ext E52 E52.size n55.ext
 refine lw_e (oe_alloc ze120 ?_)
 intro b59 w60 n61
 have N62 : w.heap.size ≤ b59 := n61.eq ▸ E58.size
 have : b53 < b59 := n61.eq ▸ lt_of_blk n55.blk
 have E63 := below_ext E58 E58.size n61.ext
 have H64 := (n61.ext.blk n55.blk)
 refine lw_e (oe_store (v := .agg #[.bool nr40, .slice A41 n42 c43]) (vs := [.bool nr40, .slice A41 n42 c43]) (l := [.bool nr40, .slice A41 n42 c43]) (T rfl rfl) (T rfl rfl) sz120 rfl rfl rfl H64 rfl ?_)
 intro w65 s66 H67
 have E68 := below_st E63 N56 s66
 have H69 := (s66.blk n61.blk (by omega))
 refine lw_e (oe_store (v := .agg #[.bool nr44, .slice A45 n46 c47]) (vs := [.bool nr44, .slice A45 n46 c47]) (l := [.bool nr44, .slice A45 n46 c47]) (T rfl rfl) (T rfl rfl) sz120 rfl rfl rfl H69 rfl ?_)
 intro w70 s71 H72
 have E73 := below_st E68 N62 s71
 refine lw_nil ?_
 refine rk_seq ?_
 refine rk_reg ?_
 refine lw_v (.pointer (some ⟨b1, 2, none⟩)) (dv_fieldAddr (a := ⟨b1, 0, none⟩) (a' := ⟨b1, 2, none⟩) fo139_1 (T rfl rfl) rfl) ?_
 have H74 := (s71.blk (s66.blk (n61.ext.blk (n55.ext.blk (e51.blk H37))) (by omega)) (by omega))
 refine lw_v (.agg #[.bool nb, .slice Ab lb cb]) (dv_loads (l := [.bool nb, .slice Ab lb cb]) agt120 sz120 (T rfl rfl) H74 rfl) ?_
 have H75 := (s71.blk (s66.blk (n61.ext.blk (n55.ext.blk H57)) (by omega)) (by omega))
 refine lw_v (.agg #[.bool nr19, .slice A20 n21 c22]) (dv_loads (l := [.bool nr19, .slice A20 n21 c22]) agt120 sz120 (T rfl rfl) H75 rfl) ?_
 have h76 := hb.ext E73
 have h77 := (((((h39.ext e51).ext n55.ext).ext n61.ext).st s66 H64 (by decide)).st s71 H69 (by decide))
 refine lw_e (oe_callf (vs := [.agg #[.bool nb, .slice Ab lb cb], .agg #[.bool nr19, .slice A20 n21 c22]]) co161 (ar2 (T rfl rfl) (T rfl rfl)) (over_ok h76 h77 (Int.ne_of_gt (gI_pos hy)) (by first | decide | omega) (by first | decide | omega)) ?_)
 rintro _ w88 ⟨nr78, A79, n80, c81, nr82, A83, n84, c85, rfl, e89, h86, h87⟩
 have E90 := below_ext E73 E73.size e89
 have lh86 := Num.len (by decide) h86
 have lh87 := Num.len (by decide) h87
 refine lw_v (.tuple #[.agg #[.bool nr78, .slice A79 n80 c81], .agg #[.bool nr82, .slice A83 n84 c85]]) (dv_move (T rfl rfl)) ?_
 refine lw_v (.agg #[.bool nr78, .slice A79 n80 c81]) (dv_extract (vs := #[.agg #[.bool nr78, .slice A79 n80 c81], .agg #[.bool nr82, .slice A83 n84 c85]]) (T rfl rfl) rfl) ?_
 refine lw_v (.agg #[.bool nr82, .slice A83 n84 c85]) (dv_extract (vs := #[.agg #[.bool nr78, .slice A79 n80 c81], .agg #[.bool nr82, .slice A83 n84 c85]]) (T rfl rfl) rfl) ?_
 refine lw_e (oe_alloc ze120 ?_)
 intro b91 w92 n93
 have N94 : w.heap.size ≤ b91 := n93.eq ▸ E90.size
 have H95 := (e89.blk H72)
 have : b59 < b91 := n93.eq ▸ lt_of_blk H95
 have E96 := below_ext E90 E90.size n93.ext
 refine lw_e (oe_alloc ze120 ?_)
 intro b97 w98 n99
 have N100 : w.heap.size ≤ b97 := n99.eq ▸ E96.size
 have : b91 < b97 := n99.eq ▸ lt_of_blk n93.blk
 have E101 := below_ext E96 E96.size n99.ext
 have H102 := (n99.ext.blk n93.blk)
 refine lw_e (oe_store (v := .agg #[.bool nr78, .slice A79 n80 c81]) (vs := [.bool nr78, .slice A79 n80 c81]) (l := [.bool nr78, .slice A79 n80 c81]) (T rfl rfl) (T rfl rfl) sz120 rfl rfl rfl H102 rfl ?_)
 intro w103 s104 H105
 have E106 := below_st E101 N94 s104
 have H107 := (s104.blk n99.blk (by omega))
 refine lw_e (oe_store (v := .agg #[.bool nr82, .slice A83 n84 c85]) (vs := [.bool nr82, .slice A83 n84 c85]) (l := [.bool nr82, .slice A83 n84 c85]) (T rfl rfl) (T rfl rfl) sz120 rfl rfl rfl H107 rfl ?_)
 intro w108 s109 H110
 have E111 := below_st E106 N100 s109
 refine lw_nil ?_
 refine rk_seq ?_
 refine rk_seq ?_
 have h112 := ((((h86.ext n93.ext).ext n99.ext).st s104 H102 (by decide)).st s109 H107 (by decide))
 have hdn := h112.neg_iff
 refine rk_reg ?_
 refine lw_v (.pointer (some ⟨b91, 0, none⟩)) (dv_fieldAddr (a := ⟨b91, 0, none⟩) (a' := ⟨b91, 0, none⟩) fo120_0 (T rfl rfl) rfl) ?_
 have H113 := (s109.blk H105 (by omega))
 refine lw_v (.bool nr78) (dv_load1 (b := b91) (o := 0) agt4 (T rfl rfl) H113 rfl) ?_
 refine lw_nil ?_
 rcases Bool.eq_false_or_eq_true (nr78) with hb114 | hb114
 · refine rk_ct (T rfl (congrArg Value.bool hb114)) ?_
   refine rk_join (fun fr wl => ∃ (nr121 : Bool) (A122 : Option Addr) (n123 : Nat) (c124 : Nat) (nr131 : Bool) (A132 : Option Addr) (n133 : Nat) (c134 : Nat), fr 2 = .pointer (some ⟨b6, 0, none⟩) ∧ fr 4 = .pointer (some ⟨b53, 0, none⟩) ∧ fr 6 = .pointer (some ⟨b91, 0, none⟩) ∧ Below w.heap.size w wl ∧ wl.heap[b1]? = some (.cells #[.bool na, .slice Aa la ca, .bool nb, .slice Ab lb cb] 139) ∧ wl.heap[b6]? = some (.cells #[.bool false, .slice none 0 0, .bool false, .slice none 0 0] 139) ∧ wl.heap[b12]? = some (.cells #[.bool na, .slice Aa la ca, .bool nb, .slice Ab lb cb] 120) ∧ wl.heap[b27]? = some (.cells #[.bool nr19, .slice A20 n21 c22] 120) ∧ wl.heap[b53]? = some (.cells #[.bool nr121, .slice A122 n123 c124] 120) ∧ wl.heap[b59]? = some (.cells #[.bool nr44, .slice A45 n46 c47] 120) ∧ wl.heap[b91]? = some (.cells #[.bool nr131, .slice A132 n133 c134] 120) ∧ wl.heap[b97]? = some (.cells #[.bool nr82, .slice A83 n84 c85] 120) ∧ Num 64 29 .u64 wl nr19 A20 n21 c22 (gI x y) ((max sx sy)) ∧ Num 64 29 .u64 wl nr121 A122 n123 c124 (-(x / (gI x y))) sx ∧ Num 64 29 .u64 wl nr44 A45 n46 c47 (x % (gI x y)) ((max sx sy)) ∧ Num 64 29 .u64 wl nr131 A132 n133 c134 (-(y / (gI x y))) sy ∧ Num 64 29 .u64 wl nr82 A83 n84 c85 (y % (gI x y)) ((max sx sy))) ?_ (fun hj151 => ?_)
   · intro fr152 w149 hI150
     obtain ⟨nr121, A122, n123, c124, nr131, A132, n133, c134, f153, f154, f155, E156, H157, H158, H159, H160, H161, H162, H163, H164, h165, h166, h167, h168, h169⟩ := hI150
     have lh165 := Num.len (by decide) h165
     have lh166 := Num.len (by decide) h166
     have lh167 := Num.len (by decide) h167
     have lh168 := Num.len (by decide) h168
     have lh169 := Num.len (by decide) h169
     have : w.heap.size ≤ b1 := N4
     have : w.heap.size ≤ b6 := N9
     have : w.heap.size ≤ b12 := N15
     have : w.heap.size ≤ b27 := N30
     have : w.heap.size ≤ b53 := N56
     have : w.heap.size ≤ b59 := N62
     have : w.heap.size ≤ b91 := N94
     have : w.heap.size ≤ b97 := N100
     refine rk_seq ?_
     refine rk_reg ?_
     refine lw_v (.agg #[.bool nr121, .slice A122 n123 c124]) (dv_loads (l := [.bool nr121, .slice A122 n123 c124]) agt120 sz120 (T rfl f154) H161 rfl) ?_
     refine lw_v (.agg #[.bool nr131, .slice A132 n133 c134]) (dv_loads (l := [.bool nr131, .slice A132 n133 c134]) agt120 sz120 (T rfl f155) H163 rfl) ?_
     refine lw_v (.agg #[.bool nr121, .slice A122 n123 c124, .bool nr131, .slice A132 n133 c134]) (dv_build (pv := [(0, .agg #[.bool nr121, .slice A122 n123 c124]), (1, .agg #[.bool nr131, .slice A132 n133 c134])]) (l := [.bool nr121, .slice A122 n123 c124, .bool nr131, .slice A132 n133 c134]) zc139 pl139 ⟨rfl, (T rfl rfl), ⟨rfl, (T rfl rfl), trivial⟩⟩ rfl) ?_
     refine lw_e (oe_store (v := .agg #[.bool nr121, .slice A122 n123 c124, .bool nr131, .slice A132 n133 c134]) (vs := [.bool nr121, .slice A122 n123 c124, .bool nr131, .slice A132 n133 c134]) (l := [.bool nr121, .slice A122 n123 c124, .bool nr131, .slice A132 n133 c134]) (T rfl f153) (T rfl rfl) sz139 rfl rfl rfl H158 rfl ?_)
     intro w170 s171 H172
     have E173 := below_st E156 N9 s171
     refine lw_nil ?_
     refine rk_ret Try.func163 (v := .agg #[.bool nr121, .slice A122 n123 c124, .bool nr131, .slice A132 n133 c134]) (res1 Try.results163 (rv_cells (l := [.bool nr121, .slice A122 n123 c124, .bool nr131, .slice A132 n133 c134]) agt139 sz139 rfl f153 H172 rfl)) ⟨_, rfl, ?_⟩
     have h174 := (h166.st s171 H158 (by decide))
     have h175 := (h168.st s171 H158 (by decide))
     exact ⟨_, _, _, _, _, _, _, _, rfl, E173, h174.to ((by rw [← low_up hy, if_pos (hdn.1 (by assumption))])) (Nat.le_refl _), h175.to ((by rw [← low_dn hy, if_pos (hdn.1 (by assumption))])) (Nat.le_refl _)⟩
   · refine rk_any (fun _ => True) [] mo ?_
     intro w176 d177
     have E178 := below_ext E111 E111.size d177.ext
     have H179 := (d177.ext.blk (s109.blk (s104.blk (n99.ext.blk (n93.ext.blk (e89.blk (s71.blk H67 (by omega))))) (by omega)) (by omega)))
     have H180 := (d177.ext.blk H113)
     refine aw_two 0 2 rfl rfl (by kernel_rfl) .none .none ?_ ?_
     · refine id (DV.oe (dv_loads (l := [.bool nr40, .slice A41 n42 c43]) agt120 sz120 (T rfl rfl) H179 rfl) ?_)
       refine ⟨.inr trivial, ?_⟩
       refine aw_two 1 2 rfl rfl (by kernel_rfl) .none .none ?_ ?_
       · have h181 := ((((((((((h48.ext n55.ext).ext n61.ext).st s66 H64 (by decide)).st s71 H69 (by decide)).ext e89).ext n93.ext).ext n99.ext).st s104 H102 (by decide)).st s109 H107 (by decide)).ext d177.ext)
         refine id (oe_callf (vs := [.agg #[.bool nr40, .slice A41 n42 c43]]) co160 (ar1 (T rfl rfl)) (minus_ok h181 (by first | decide | omega)) ?_)
         rintro _ w187 ⟨nr182, A183, n184, c185, rfl, e188, h186⟩
         have E189 := below_ext E178 E178.size e188
         have lh186 := Num.len (by decide) h186
         refine ⟨.inr trivial, ?_⟩
         have H190 := (e188.blk H180)
         refine aw_one 2 rfl (by kernel_rfl) .none (DV.oe (dv_loads (l := [.bool nr78, .slice A79 n80 c81]) agt120 sz120 (T rfl rfl) H190 rfl) ?_)
         refine ⟨.inr trivial, ?_⟩
         have h191 := ((h112.ext d177.ext).ext e188)
         refine aw_one 3 rfl (by kernel_rfl) .none (oe_callf (vs := [.agg #[.bool nr78, .slice A79 n80 c81]]) co160 (ar1 (T rfl rfl)) (minus_ok h191 (by first | decide | omega)) ?_)
         rintro _ w197 ⟨nr192, A193, n194, c195, rfl, e198, h196⟩
         have E199 := below_ext E189 E189.size e198
         have lh196 := Num.len (by decide) h196
         refine ⟨.inr trivial, ?_⟩
         have H200 := (e198.blk (e188.blk H179))
         refine aw_one 4 rfl (by kernel_rfl) .none (oe_store (v := .agg #[.bool nr182, .slice A183 n184 c185]) (vs := [.bool nr182, .slice A183 n184 c185]) (l := [.bool nr182, .slice A183 n184 c185]) (T rfl rfl) (T rfl rfl) sz120 rfl rfl rfl H200 rfl ?_)
         intro w201 s202 H203
         have E204 := below_st E199 N56 s202
         refine ⟨.inr trivial, ?_⟩
         have H205 := (s202.blk (e198.blk H190) (by omega))
         refine aw_one 5 rfl (by kernel_rfl) .none (oe_store (v := .agg #[.bool nr192, .slice A193 n194 c195]) (vs := [.bool nr192, .slice A193 n194 c195]) (l := [.bool nr192, .slice A193 n194 c195]) (T rfl rfl) (T rfl rfl) sz120 rfl rfl rfl H205 rfl ?_)
         intro w206 s207 H208
         have E209 := below_st E204 N94 s207
         refine ⟨.inr trivial, ?_⟩
         refine aw_done (by kernel_rfl) ?_
         have H210 := (s207.blk (s202.blk (e198.blk (e188.blk (d177.ext.blk (s109.blk (s104.blk (n99.ext.blk (n93.ext.blk (e89.blk H74))) (by omega)) (by omega))))) (by omega)) (by omega))
         have H211 := (s207.blk (s202.blk (e198.blk (e188.blk (d177.ext.blk (s109.blk (s104.blk (n99.ext.blk (n93.ext.blk (e89.blk (s71.blk (s66.blk (n61.ext.blk (n55.ext.blk (e51.blk (s34.blk (n29.ext.blk (e25.blk (n14.ext.blk n8.blk))) (by omega))))) (by omega)) (by omega))))) (by omega)) (by omega))))) (by omega)) (by omega))
         have H212 := (s207.blk (s202.blk (e198.blk (e188.blk (d177.ext.blk (s109.blk (s104.blk (n99.ext.blk (n93.ext.blk (e89.blk (s71.blk (s66.blk (n61.ext.blk (n55.ext.blk (e51.blk (s34.blk (n29.ext.blk H31) (by omega))))) (by omega)) (by omega))))) (by omega)) (by omega))))) (by omega)) (by omega))
         have H213 := (s207.blk (s202.blk (e198.blk (e188.blk (d177.ext.blk (s109.blk (s104.blk (n99.ext.blk (n93.ext.blk (e89.blk H75))) (by omega)) (by omega))))) (by omega)) (by omega))
         have H214 := (s207.blk H203 (by omega))
         have H215 := (s207.blk (s202.blk (e198.blk (e188.blk (d177.ext.blk (s109.blk (s104.blk (n99.ext.blk (n93.ext.blk H95)) (by omega)) (by omega))))) (by omega)) (by omega))
         have H216 := (s207.blk (s202.blk (e198.blk (e188.blk (d177.ext.blk H110))) (by omega)) (by omega))
         have h217 := ((((((((((h77.ext e89).ext n93.ext).ext n99.ext).st s104 H102 (by decide)).st s109 H107 (by decide)).ext d177.ext).ext e188).ext e198).st s202 H200 (by decide)).st s207 H205 (by decide))
         have h218 := (((h186.ext e198).st s202 H200 (by decide)).st s207 H205 (by decide))
         have h219 := ((((((((((((((h49.ext n55.ext).ext n61.ext).st s66 H64 (by decide)).st s71 H69 (by decide)).ext e89).ext n93.ext).ext n99.ext).st s104 H102 (by decide)).st s109 H107 (by decide)).ext d177.ext).ext e188).ext e198).st s202 H200 (by decide)).st s207 H205 (by decide))
         have h220 := ((h196.st s202 H200 (by decide)).st s207 H205 (by decide))
         have h221 := (((((((((h87.ext n93.ext).ext n99.ext).st s104 H102 (by decide)).st s109 H107 (by decide)).ext d177.ext).ext e188).ext e198).st s202 H200 (by decide)).st s207 H205 (by decide))
         exact hj151 _ _ ⟨nr182, A183, n184, c185, nr192, A193, n194, c195, rfl, rfl, rfl, E209, H210, H211, H212, H213, H214, H215, H208, H216, h217, h218, h219, h220, h221⟩
       · refine id (DV.oe (dv_loads (l := [.bool nr78, .slice A79 n80 c81]) agt120 sz120 (T rfl rfl) H180 rfl) ?_)
         refine ⟨.inr trivial, ?_⟩
         have h222 := ((((((((((h48.ext n55.ext).ext n61.ext).st s66 H64 (by decide)).st s71 H69 (by decide)).ext e89).ext n93.ext).ext n99.ext).st s104 H102 (by decide)).st s109 H107 (by decide)).ext d177.ext)
         refine aw_one 1 rfl (by kernel_rfl) .none (oe_callf (vs := [.agg #[.bool nr40, .slice A41 n42 c43]]) co160 (ar1 (T rfl rfl)) (minus_ok h222 (by first | decide | omega)) ?_)
         rintro _ w228 ⟨nr223, A224, n225, c226, rfl, e229, h227⟩
         have E230 := below_ext E178 E178.size e229
         have lh227 := Num.len (by decide) h227
         refine ⟨.inr trivial, ?_⟩
         have h231 := ((h112.ext d177.ext).ext e229)
         refine aw_one 3 rfl (by kernel_rfl) .none (oe_callf (vs := [.agg #[.bool nr78, .slice A79 n80 c81]]) co160 (ar1 (T rfl rfl)) (minus_ok h231 (by first | decide | omega)) ?_)
         rintro _ w237 ⟨nr232, A233, n234, c235, rfl, e238, h236⟩
         have E239 := below_ext E230 E230.size e238
         have lh236 := Num.len (by decide) h236
         refine ⟨.inr trivial, ?_⟩
         have H240 := (e238.blk (e229.blk H179))
         refine aw_one 4 rfl (by kernel_rfl) .none (oe_store (v := .agg #[.bool nr223, .slice A224 n225 c226]) (vs := [.bool nr223, .slice A224 n225 c226]) (l := [.bool nr223, .slice A224 n225 c226]) (T rfl rfl) (T rfl rfl) sz120 rfl rfl rfl H240 rfl ?_)
         intro w241 s242 H243
         have E244 := below_st E239 N56 s242
         refine ⟨.inr trivial, ?_⟩
         have H245 := (s242.blk (e238.blk (e229.blk H180)) (by omega))
         refine aw_one 5 rfl (by kernel_rfl) .none (oe_store (v := .agg #[.bool nr232, .slice A233 n234 c235]) (vs := [.bool nr232, .slice A233 n234 c235]) (l := [.bool nr232, .slice A233 n234 c235]) (T rfl rfl) (T rfl rfl) sz120 rfl rfl rfl H245 rfl ?_)
         intro w246 s247 H248
         have E249 := below_st E244 N94 s247
         refine ⟨.inr trivial, ?_⟩
         refine aw_done (by kernel_rfl) ?_
         have H250 := (s247.blk (s242.blk (e238.blk (e229.blk (d177.ext.blk (s109.blk (s104.blk (n99.ext.blk (n93.ext.blk (e89.blk H74))) (by omega)) (by omega))))) (by omega)) (by omega))
         have H251 := (s247.blk (s242.blk (e238.blk (e229.blk (d177.ext.blk (s109.blk (s104.blk (n99.ext.blk (n93.ext.blk (e89.blk (s71.blk (s66.blk (n61.ext.blk (n55.ext.blk (e51.blk (s34.blk (n29.ext.blk (e25.blk (n14.ext.blk n8.blk))) (by omega))))) (by omega)) (by omega))))) (by omega)) (by omega))))) (by omega)) (by omega))
         have H252 := (s247.blk (s242.blk (e238.blk (e229.blk (d177.ext.blk (s109.blk (s104.blk (n99.ext.blk (n93.ext.blk (e89.blk (s71.blk (s66.blk (n61.ext.blk (n55.ext.blk (e51.blk (s34.blk (n29.ext.blk H31) (by omega))))) (by omega)) (by omega))))) (by omega)) (by omega))))) (by omega)) (by omega))
         have H253 := (s247.blk (s242.blk (e238.blk (e229.blk (d177.ext.blk (s109.blk (s104.blk (n99.ext.blk (n93.ext.blk (e89.blk H75))) (by omega)) (by omega))))) (by omega)) (by omega))
         have H254 := (s247.blk H243 (by omega))
         have H255 := (s247.blk (s242.blk (e238.blk (e229.blk (d177.ext.blk (s109.blk (s104.blk (n99.ext.blk (n93.ext.blk H95)) (by omega)) (by omega))))) (by omega)) (by omega))
         have H256 := (s247.blk (s242.blk (e238.blk (e229.blk (d177.ext.blk H110))) (by omega)) (by omega))
         have h257 := ((((((((((h77.ext e89).ext n93.ext).ext n99.ext).st s104 H102 (by decide)).st s109 H107 (by decide)).ext d177.ext).ext e229).ext e238).st s242 H240 (by decide)).st s247 H245 (by decide))
         have h258 := (((h227.ext e238).st s242 H240 (by decide)).st s247 H245 (by decide))
         have h259 := ((((((((((((((h49.ext n55.ext).ext n61.ext).st s66 H64 (by decide)).st s71 H69 (by decide)).ext e89).ext n93.ext).ext n99.ext).st s104 H102 (by decide)).st s109 H107 (by decide)).ext d177.ext).ext e229).ext e238).st s242 H240 (by decide)).st s247 H245 (by decide))
         have h260 := ((h236.st s242 H240 (by decide)).st s247 H245 (by decide))
         have h261 := (((((((((h87.ext n93.ext).ext n99.ext).st s104 H102 (by decide)).st s109 H107 (by decide)).ext d177.ext).ext e229).ext e238).st s242 H240 (by decide)).st s247 H245 (by decide))
         exact hj151 _ _ ⟨nr223, A224, n225, c226, nr232, A233, n234, c235, rfl, rfl, rfl, E249, H250, H251, H252, H253, H254, H255, H248, H256, h257, h258, h259, h260, h261⟩
     · refine id (DV.oe (dv_loads (l := [.bool nr78, .slice A79 n80 c81]) agt120 sz120 (T rfl rfl) H180 rfl) ?_)
       refine ⟨.inr trivial, ?_⟩
       refine aw_one 0 rfl (by kernel_rfl) .none (DV.oe (dv_loads (l := [.bool nr40, .slice A41 n42 c43]) agt120 sz120 (T rfl rfl) H179 rfl) ?_)
       refine ⟨.inr trivial, ?_⟩
       have h262 := ((((((((((h48.ext n55.ext).ext n61.ext).st s66 H64 (by decide)).st s71 H69 (by decide)).ext e89).ext n93.ext).ext n99.ext).st s104 H102 (by decide)).st s109 H107 (by decide)).ext d177.ext)
       refine aw_one 1 rfl (by kernel_rfl) .none (oe_callf (vs := [.agg #[.bool nr40, .slice A41 n42 c43]]) co160 (ar1 (T rfl rfl)) (minus_ok h262 (by first | decide | omega)) ?_)
       rintro _ w268 ⟨nr263, A264, n265, c266, rfl, e269, h267⟩
       have E270 := below_ext E178 E178.size e269
       have lh267 := Num.len (by decide) h267
       refine ⟨.inr trivial, ?_⟩
       have h271 := ((h112.ext d177.ext).ext e269)
       refine aw_one 3 rfl (by kernel_rfl) .none (oe_callf (vs := [.agg #[.bool nr78, .slice A79 n80 c81]]) co160 (ar1 (T rfl rfl)) (minus_ok h271 (by first | decide | omega)) ?_)
       rintro _ w277 ⟨nr272, A273, n274, c275, rfl, e278, h276⟩
       have E279 := below_ext E270 E270.size e278
       have lh276 := Num.len (by decide) h276
       refine ⟨.inr trivial, ?_⟩
       have H280 := (e278.blk (e269.blk H179))
       refine aw_one 4 rfl (by kernel_rfl) .none (oe_store (v := .agg #[.bool nr263, .slice A264 n265 c266]) (vs := [.bool nr263, .slice A264 n265 c266]) (l := [.bool nr263, .slice A264 n265 c266]) (T rfl rfl) (T rfl rfl) sz120 rfl rfl rfl H280 rfl ?_)
       intro w281 s282 H283
       have E284 := below_st E279 N56 s282
       refine ⟨.inr trivial, ?_⟩
       have H285 := (s282.blk (e278.blk (e269.blk H180)) (by omega))
       refine aw_one 5 rfl (by kernel_rfl) .none (oe_store (v := .agg #[.bool nr272, .slice A273 n274 c275]) (vs := [.bool nr272, .slice A273 n274 c275]) (l := [.bool nr272, .slice A273 n274 c275]) (T rfl rfl) (T rfl rfl) sz120 rfl rfl rfl H285 rfl ?_)
       intro w286 s287 H288
       have E289 := below_st E284 N94 s287
       refine ⟨.inr trivial, ?_⟩
       refine aw_done (by kernel_rfl) ?_
       have H290 := (s287.blk (s282.blk (e278.blk (e269.blk (d177.ext.blk (s109.blk (s104.blk (n99.ext.blk (n93.ext.blk (e89.blk H74))) (by omega)) (by omega))))) (by omega)) (by omega))
       have H291 := (s287.blk (s282.blk (e278.blk (e269.blk (d177.ext.blk (s109.blk (s104.blk (n99.ext.blk (n93.ext.blk (e89.blk (s71.blk (s66.blk (n61.ext.blk (n55.ext.blk (e51.blk (s34.blk (n29.ext.blk (e25.blk (n14.ext.blk n8.blk))) (by omega))))) (by omega)) (by omega))))) (by omega)) (by omega))))) (by omega)) (by omega))
       have H292 := (s287.blk (s282.blk (e278.blk (e269.blk (d177.ext.blk (s109.blk (s104.blk (n99.ext.blk (n93.ext.blk (e89.blk (s71.blk (s66.blk (n61.ext.blk (n55.ext.blk (e51.blk (s34.blk (n29.ext.blk H31) (by omega))))) (by omega)) (by omega))))) (by omega)) (by omega))))) (by omega)) (by omega))
       have H293 := (s287.blk (s282.blk (e278.blk (e269.blk (d177.ext.blk (s109.blk (s104.blk (n99.ext.blk (n93.ext.blk (e89.blk H75))) (by omega)) (by omega))))) (by omega)) (by omega))
       have H294 := (s287.blk H283 (by omega))
       have H295 := (s287.blk (s282.blk (e278.blk (e269.blk (d177.ext.blk (s109.blk (s104.blk (n99.ext.blk (n93.ext.blk H95)) (by omega)) (by omega))))) (by omega)) (by omega))
       have H296 := (s287.blk (s282.blk (e278.blk (e269.blk (d177.ext.blk H110))) (by omega)) (by omega))
       have h297 := ((((((((((h77.ext e89).ext n93.ext).ext n99.ext).st s104 H102 (by decide)).st s109 H107 (by decide)).ext d177.ext).ext e269).ext e278).st s282 H280 (by decide)).st s287 H285 (by decide))
       have h298 := (((h267.ext e278).st s282 H280 (by decide)).st s287 H285 (by decide))
       have h299 := ((((((((((((((h49.ext n55.ext).ext n61.ext).st s66 H64 (by decide)).st s71 H69 (by decide)).ext e89).ext n93.ext).ext n99.ext).st s104 H102 (by decide)).st s109 H107 (by decide)).ext d177.ext).ext e269).ext e278).st s282 H280 (by decide)).st s287 H285 (by decide))
       have h300 := ((h276.st s282 H280 (by decide)).st s287 H285 (by decide))
       have h301 := (((((((((h87.ext n93.ext).ext n99.ext).st s104 H102 (by decide)).st s109 H107 (by decide)).ext d177.ext).ext e269).ext e278).st s282 H280 (by decide)).st s287 H285 (by decide))
       exact hj151 _ _ ⟨nr263, A264, n265, c266, nr272, A273, n274, c275, rfl, rfl, rfl, E289, H290, H291, H292, H293, H294, H295, H288, H296, h297, h298, h299, h300, h301⟩
 · refine rk_cf (T rfl (congrArg Value.bool hb114)) ?_
   refine rk_skip ?_
   refine rk_seq ?_
   refine rk_reg ?_
   have H302 := (s109.blk (s104.blk (n99.ext.blk (n93.ext.blk (e89.blk (s71.blk H67 (by omega))))) (by omega)) (by omega))
   refine lw_v (.agg #[.bool nr40, .slice A41 n42 c43]) (dv_loads (l := [.bool nr40, .slice A41 n42 c43]) agt120 sz120 (T rfl rfl) H302 rfl) ?_
   refine lw_v (.agg #[.bool nr78, .slice A79 n80 c81]) (dv_loads (l := [.bool nr78, .slice A79 n80 c81]) agt120 sz120 (T rfl rfl) H113 rfl) ?_
   refine lw_v (.agg #[.bool nr40, .slice A41 n42 c43, .bool nr78, .slice A79 n80 c81]) (dv_build (pv := [(0, .agg #[.bool nr40, .slice A41 n42 c43]), (1, .agg #[.bool nr78, .slice A79 n80 c81])]) (l := [.bool nr40, .slice A41 n42 c43, .bool nr78, .slice A79 n80 c81]) zc139 pl139 ⟨rfl, (T rfl rfl), ⟨rfl, (T rfl rfl), trivial⟩⟩ rfl) ?_
   have H303 := (s109.blk (s104.blk (n99.ext.blk (n93.ext.blk (e89.blk (s71.blk (s66.blk (n61.ext.blk (n55.ext.blk (e51.blk (s34.blk (n29.ext.blk (e25.blk (n14.ext.blk n8.blk))) (by omega))))) (by omega)) (by omega))))) (by omega)) (by omega))
   refine lw_e (oe_store (v := .agg #[.bool nr40, .slice A41 n42 c43, .bool nr78, .slice A79 n80 c81]) (vs := [.bool nr40, .slice A41 n42 c43, .bool nr78, .slice A79 n80 c81]) (l := [.bool nr40, .slice A41 n42 c43, .bool nr78, .slice A79 n80 c81]) (T rfl rfl) (T rfl rfl) sz139 rfl rfl rfl H303 rfl ?_)
   intro w304 s305 H306
   have E307 := below_st E111 N9 s305
   refine lw_nil ?_
   refine rk_ret Try.func163 (v := .agg #[.bool nr40, .slice A41 n42 c43, .bool nr78, .slice A79 n80 c81]) (res1 Try.results163 (rv_cells (l := [.bool nr40, .slice A41 n42 c43, .bool nr78, .slice A79 n80 c81]) agt139 sz139 rfl rfl H306 rfl)) ⟨_, rfl, ?_⟩
   have h308 := ((((((((((h48.ext n55.ext).ext n61.ext).st s66 H64 (by decide)).st s71 H69 (by decide)).ext e89).ext n93.ext).ext n99.ext).st s104 H102 (by decide)).st s109 H107 (by decide)).st s305 H303 (by decide))
   have h309 := (h112.st s305 H303 (by decide))
   exact ⟨_, _, _, _, _, _, _, _, rfl, E307, h308.to ((by rw [← low_up hy, if_neg (fun hh => by have := hdn.2 hh; simp_all)])) (Nat.le_refl _), h309.to ((by rw [← low_dn hy, if_neg (fun hh => by have := hdn.2 hh; simp_all)])) (Nat.le_refl _)⟩
set_option maxHeartbeats 1000000 in
theorem told_ok {w : World}  {na : Bool} {Aa : Option Addr} {la ca : Nat} {x : Int} {sx : Nat} (ha : Num 64 29 .u64 w na Aa la ca x sx) {nb : Bool} {Ab : Option Addr} {lb cb : Nat} {y : Int} {sy : Nat} (hb : Num 64 29 .u64 w nb Ab lb cb y sy) (hbsx : sx ≤ 100000) (hbsy : sy ≤ 100000)  : Ct Try.prog 108 [.agg #[.bool na, .slice Aa la ca, .bool nb, .slice Ab lb cb]] w fun v w1 => v = .tuple #[.agg #[.int .u64 (wv3 (pkz (rFit x y) (rUp x y))), .int .u64 (wv2 (pkz (rFit x y) (rUp x y))), .int .u64 (wv1 (pkz (rFit x y) (rUp x y))), .int .u64 (wv0 (pkz (rFit x y) (rUp x y))), .int .u64 (wv3 (pkz (rFit x y) (rDn x y))), .int .u64 (wv2 (pkz (rFit x y) (rDn x y))), .int .u64 (wv1 (pkz (rFit x y) (rDn x y))), .int .u64 (wv0 (pkz (rFit x y) (rDn x y)))], .bool (decide (rFit x y))] ∧ Ext w w1 := by
 refine ct_run (n := 37) Try.func108 rfl Try.ntmps108 rfl ?_
 have E0 : Below w.heap.size w w := Below.refl _ _
 have lha := Num.len (by decide) ha
 have lhb := Num.len (by decide) hb
 refine rk_seq ?_
 refine rk_reg ?_
 refine lw_e (oe_box (v := .agg #[.bool na, .slice Aa la ca, .bool nb, .slice Ab lb cb]) (cs := #[.bool na, .slice Aa la ca, .bool nb, .slice Ab lb cb]) (T rfl rfl) rfl ?_)
 intro b1 w2 n3
 have N4 : w.heap.size ≤ b1 := n3.eq ▸ E0.size
 have E5 := below_ext E0 E0.size n3.ext
 refine lw_e (oe_alloc ze68 ?_)
 intro b6 w7 n8
 have N9 : w.heap.size ≤ b6 := n8.eq ▸ E5.size
 have : b1 < b6 := n8.eq ▸ lt_of_blk n3.blk
 have E10 := below_ext E5 E5.size n8.ext
 refine lw_v (.bool false) (dv_assign C) ?_
 refine lw_nil ?_
 refine rk_seq ?_
 refine rk_seq ?_
 refine rk_reg ?_
 refine lw_v (.pointer (some ⟨b1, 2, none⟩)) (dv_fieldAddr (a := ⟨b1, 0, none⟩) (a' := ⟨b1, 2, none⟩) fo139_1 (T rfl rfl) rfl) ?_
 have H11 := (n8.ext.blk n3.blk)
 refine lw_v (.agg #[.bool nb, .slice Ab lb cb]) (dv_loads (l := [.bool nb, .slice Ab lb cb]) agt120 sz120 (T rfl rfl) H11 rfl) ?_
 have h12 := ((hb.ext n3.ext).ext n8.ext)
 refine lw_e (oe_callf (vs := [.agg #[.bool nb, .slice Ab lb cb]]) co132 (ar1 (T rfl rfl)) (nsign_ok h12 ) ?_)
 rintro _ w13 ⟨rfl, e14⟩
 have E15 := below_ext E10 E10.size e14
 refine lw_v (.bool (decide ((sgnI y) = 0))) (dv_eql (a := sgnI y) (b := 0) (T rfl rfl) C) ?_
 refine lw_nil ?_
 by_cases hb16 : (sgnI y) = 0
 · refine rk_ct (T rfl (congrArg Value.bool (decide_eq_true hb16))) ?_
   refine rk_seq ?_
   refine rk_reg ?_
   refine lw_v (.agg #[.int .u64 0, .int .u64 0, .int .u64 0, .int .u64 0, .int .u64 0, .int .u64 0, .int .u64 0, .int .u64 0]) (dv_build (pv := []) (l := [.int .u64 0, .int .u64 0, .int .u64 0, .int .u64 0, .int .u64 0, .int .u64 0, .int .u64 0, .int .u64 0]) zc68 pl68 trivial rfl) ?_
   have H17 := (e14.blk n8.blk)
   refine lw_e (oe_store (v := .agg #[.int .u64 0, .int .u64 0, .int .u64 0, .int .u64 0, .int .u64 0, .int .u64 0, .int .u64 0, .int .u64 0]) (vs := [.int .u64 0, .int .u64 0, .int .u64 0, .int .u64 0, .int .u64 0, .int .u64 0, .int .u64 0, .int .u64 0]) (l := [.int .u64 0, .int .u64 0, .int .u64 0, .int .u64 0, .int .u64 0, .int .u64 0, .int .u64 0, .int .u64 0]) (T rfl rfl) (T rfl rfl) sz68 rfl rfl rfl H17 rfl ?_)
   intro w18 s19 H20
   have E21 := below_st E15 N9 s19
   refine lw_v (.bool false) (dv_assign C) ?_
   refine lw_nil ?_
   refine rk_ret Try.func108 (v := .tuple #[.agg #[.int .u64 0, .int .u64 0, .int .u64 0, .int .u64 0, .int .u64 0, .int .u64 0, .int .u64 0, .int .u64 0], .bool false]) (res2 Try.results108 (rv_cells (l := [.int .u64 0, .int .u64 0, .int .u64 0, .int .u64 0, .int .u64 0, .int .u64 0, .int .u64 0, .int .u64 0]) agt68 sz68 rfl rfl H20 rfl) (rv_tmp rfl rfl)) ⟨_, rfl, ?_⟩
   have hS : ¬ (rFit x y) := by intro hd; have h1 := hd.1; have h2 := hd.2.1; have h3 := hd.2.2; have h4 := @sgnI_zero y; first | contradiction | (exact absurd (h4.1 (by assumption)) h1) | simp_all
   exact ⟨(tu2 (ag8 (vi (wf3 hS)) (vi (wf2 hS)) (vi (wf1 hS)) (vi (wf0 hS)) (vi (wf3 hS)) (vi (wf2 hS)) (vi (wf1 hS)) (vi (wf0 hS))) (vf hS)), E21⟩
 · refine rk_cf (T rfl (congrArg Value.bool (decide_eq_false hb16))) ?_
   refine rk_skip ?_
   refine rk_seq ?_
   refine rk_reg ?_
   have H22 := (e14.blk H11)
   refine lw_v (.agg #[.bool na, .slice Aa la ca, .bool nb, .slice Ab lb cb]) (dv_loads (l := [.bool na, .slice Aa la ca, .bool nb, .slice Ab lb cb]) agt139 sz139 (T rfl rfl) H22 rfl) ?_
   have h23 := (((ha.ext n3.ext).ext n8.ext).ext e14)
   have h24 := (h12.ext e14)
   refine lw_e (oe_callf (vs := [.agg #[.bool na, .slice Aa la ca, .bool nb, .slice Ab lb cb]]) co163 (ar1 (T rfl rfl)) (lowest_ok h23 h24 (by first | decide | omega) (by first | decide | omega) (by exact (fun h0 => absurd (sgnI_zero.2 h0) (by assumption)))) ?_)
   rintro _ w35 ⟨nr25, A26, n27, c28, nr29, A30, n31, c32, rfl, e36, h33, h34⟩
   have E37 := below_ext E15 E15.size e36
   have lh33 := Num.len (by decide) h33
   have lh34 := Num.len (by decide) h34
   have H38 := (e36.blk H22)
   refine lw_e (oe_store (v := .agg #[.bool nr25, .slice A26 n27 c28, .bool nr29, .slice A30 n31 c32]) (vs := [.bool nr25, .slice A26 n27 c28, .bool nr29, .slice A30 n31 c32]) (l := [.bool nr25, .slice A26 n27 c28, .bool nr29, .slice A30 n31 c32]) (T rfl rfl) (T rfl rfl) sz139 rfl rfl rfl H38 rfl ?_)
   intro w39 s40 H41
   have E42 := below_st E37 N4 s40
   refine lw_nil ?_
   refine rk_seq ?_
   refine rk_reg ?_
   refine lw_v (.pointer (some ⟨b1, 0, none⟩)) (dv_fieldAddr (a := ⟨b1, 0, none⟩) (a' := ⟨b1, 0, none⟩) fo139_0 (T rfl rfl) rfl) ?_
   refine lw_v (.agg #[.bool nr25, .slice A26 n27 c28]) (dv_loads (l := [.bool nr25, .slice A26 n27 c28]) agt120 sz120 (T rfl rfl) H41 rfl) ?_
   have h43 := (h33.st s40 H38 (by decide))
   refine lw_e (oe_callf (vs := [.agg #[.bool nr25, .slice A26 n27 c28]]) co162 (ar1 (T rfl rfl)) (nwide_ok h43 (by first | decide | omega)) ?_)
   rintro _ w45 ⟨rfl, e46⟩
   have E47 := below_ext E42 E42.size e46
   have bw44 := w_rg (rUp x y)
   refine lw_v (.tuple #[.agg #[.int .u64 (wv3 (rUp x y)), .int .u64 (wv2 (rUp x y)), .int .u64 (wv1 (rUp x y)), .int .u64 (wv0 (rUp x y))], .bool (decide (fits (rUp x y)))]) (dv_move (T rfl rfl)) ?_
   refine lw_v (.agg #[.int .u64 (wv3 (rUp x y)), .int .u64 (wv2 (rUp x y)), .int .u64 (wv1 (rUp x y)), .int .u64 (wv0 (rUp x y))]) (dv_extract (vs := #[.agg #[.int .u64 (wv3 (rUp x y)), .int .u64 (wv2 (rUp x y)), .int .u64 (wv1 (rUp x y)), .int .u64 (wv0 (rUp x y))], .bool (decide (fits (rUp x y)))]) (T rfl rfl) rfl) ?_
   refine lw_v (.bool (decide (fits (rUp x y)))) (dv_extract (vs := #[.agg #[.int .u64 (wv3 (rUp x y)), .int .u64 (wv2 (rUp x y)), .int .u64 (wv1 (rUp x y)), .int .u64 (wv0 (rUp x y))], .bool (decide (fits (rUp x y)))]) (T rfl rfl) rfl) ?_
   refine lw_e (oe_alloc ze35 ?_)
   intro b48 w49 n50
   have N51 : w.heap.size ≤ b48 := n50.eq ▸ E47.size
   have H52 := (e46.blk (s40.blk (e36.blk (e14.blk n8.blk)) (by omega)))
   have : b6 < b48 := n50.eq ▸ lt_of_blk H52
   have E53 := below_ext E47 E47.size n50.ext
   refine lw_e (oe_store (v := .agg #[.int .u64 (wv3 (rUp x y)), .int .u64 (wv2 (rUp x y)), .int .u64 (wv1 (rUp x y)), .int .u64 (wv0 (rUp x y))]) (vs := [.int .u64 (wv3 (rUp x y)), .int .u64 (wv2 (rUp x y)), .int .u64 (wv1 (rUp x y)), .int .u64 (wv0 (rUp x y))]) (l := [.int .u64 (wv3 (rUp x y)), .int .u64 (wv2 (rUp x y)), .int .u64 (wv1 (rUp x y)), .int .u64 (wv0 (rUp x y))]) (T rfl rfl) (T rfl rfl) sz35 rfl rfl rfl n50.blk rfl ?_)
   intro w54 s55 H56
   have E57 := below_st E53 N51 s55
   refine lw_v (.bool (decide (fits (rUp x y)))) (dv_assign (T rfl rfl)) ?_
   refine lw_nil ?_
   refine rk_seq ?_
   refine rk_reg ?_
   refine lw_v (.pointer (some ⟨b1, 2, none⟩)) (dv_fieldAddr (a := ⟨b1, 0, none⟩) (a' := ⟨b1, 2, none⟩) fo139_1 (T rfl rfl) rfl) ?_
   have H58 := (s55.blk (n50.ext.blk (e46.blk H41)) (by omega))
   refine lw_v (.agg #[.bool nr29, .slice A30 n31 c32]) (dv_loads (l := [.bool nr29, .slice A30 n31 c32]) agt120 sz120 (T rfl rfl) H58 rfl) ?_
   have h59 := ((((h34.st s40 H38 (by decide)).ext e46).ext n50.ext).st s55 n50.blk (by decide))
   refine lw_e (oe_callf (vs := [.agg #[.bool nr29, .slice A30 n31 c32]]) co162 (ar1 (T rfl rfl)) (nwide_ok h59 (by first | decide | omega)) ?_)
   rintro _ w61 ⟨rfl, e62⟩
   have E63 := below_ext E57 E57.size e62
   have bw60 := w_rg (rDn x y)
   refine lw_v (.tuple #[.agg #[.int .u64 (wv3 (rDn x y)), .int .u64 (wv2 (rDn x y)), .int .u64 (wv1 (rDn x y)), .int .u64 (wv0 (rDn x y))], .bool (decide (fits (rDn x y)))]) (dv_move (T rfl rfl)) ?_
   refine lw_v (.agg #[.int .u64 (wv3 (rDn x y)), .int .u64 (wv2 (rDn x y)), .int .u64 (wv1 (rDn x y)), .int .u64 (wv0 (rDn x y))]) (dv_extract (vs := #[.agg #[.int .u64 (wv3 (rDn x y)), .int .u64 (wv2 (rDn x y)), .int .u64 (wv1 (rDn x y)), .int .u64 (wv0 (rDn x y))], .bool (decide (fits (rDn x y)))]) (T rfl rfl) rfl) ?_
   refine lw_v (.bool (decide (fits (rDn x y)))) (dv_extract (vs := #[.agg #[.int .u64 (wv3 (rDn x y)), .int .u64 (wv2 (rDn x y)), .int .u64 (wv1 (rDn x y)), .int .u64 (wv0 (rDn x y))], .bool (decide (fits (rDn x y)))]) (T rfl rfl) rfl) ?_
   refine lw_e (oe_alloc ze35 ?_)
   intro b64 w65 n66
   have N67 : w.heap.size ≤ b64 := n66.eq ▸ E63.size
   have H68 := (e62.blk H56)
   have : b48 < b64 := n66.eq ▸ lt_of_blk H68
   have E69 := below_ext E63 E63.size n66.ext
   refine lw_e (oe_store (v := .agg #[.int .u64 (wv3 (rDn x y)), .int .u64 (wv2 (rDn x y)), .int .u64 (wv1 (rDn x y)), .int .u64 (wv0 (rDn x y))]) (vs := [.int .u64 (wv3 (rDn x y)), .int .u64 (wv2 (rDn x y)), .int .u64 (wv1 (rDn x y)), .int .u64 (wv0 (rDn x y))]) (l := [.int .u64 (wv3 (rDn x y)), .int .u64 (wv2 (rDn x y)), .int .u64 (wv1 (rDn x y)), .int .u64 (wv0 (rDn x y))]) (T rfl rfl) (T rfl rfl) sz35 rfl rfl rfl n66.blk rfl ?_)
   intro w70 s71 H72
   have E73 := below_st E69 N67 s71
   refine lw_v (.bool (decide (fits (rDn x y)))) (dv_assign (T rfl rfl)) ?_
   refine lw_nil ?_
   refine rk_seq ?_
   refine rk_seq ?_
   refine rk_reg ?_
   refine lw_v (.bool (decide (fits (rUp x y)))) (dv_move (T rfl rfl)) ?_
   refine lw_v (.bool (decide (¬ (fits (rUp x y))))) (dv_notd (p := fits (rUp x y)) (T rfl rfl)) ?_
   refine lw_v (.bool (decide (¬ (fits (rUp x y))))) (dv_move (T rfl rfl)) ?_
   by_cases hb74 : fits (rUp x y)
   · refine lw_vy (.bool (decide (fits (rDn x y)))) (d := 29) rfl rfl (congrArg Value.bool (decide_eq_false (not_not_intro hb74))) (dv_move (T rfl rfl)) ?_
     refine lw_vy (.bool (decide (¬ (fits (rDn x y))))) (d := 29) rfl rfl (congrArg Value.bool (decide_eq_false (not_not_intro hb74))) (dv_notd (p := fits (rDn x y)) (T rfl rfl)) ?_
     refine lw_v (.bool (decide (¬ (fits (rDn x y))))) (dv_pick_f (T rfl (congrArg Value.bool (decide_eq_false (not_not_intro hb74)))) (T rfl rfl)) ?_
     refine lw_nil ?_
     by_cases hb75 : fits (rDn x y)
     · refine rk_cf (T rfl (congrArg Value.bool (decide_eq_false (not_not_intro hb75)))) ?_
       refine rk_skip ?_
       refine rk_seq ?_
       refine rk_reg ?_
       have H76 := (s71.blk (n66.ext.blk H68) (by omega))
       refine lw_v (.agg #[.int .u64 (wv3 (rUp x y)), .int .u64 (wv2 (rUp x y)), .int .u64 (wv1 (rUp x y)), .int .u64 (wv0 (rUp x y))]) (dv_loads (l := [.int .u64 (wv3 (rUp x y)), .int .u64 (wv2 (rUp x y)), .int .u64 (wv1 (rUp x y)), .int .u64 (wv0 (rUp x y))]) agt35 sz35 (T rfl rfl) H76 rfl) ?_
       refine lw_v (.agg #[.int .u64 (wv3 (rDn x y)), .int .u64 (wv2 (rDn x y)), .int .u64 (wv1 (rDn x y)), .int .u64 (wv0 (rDn x y))]) (dv_loads (l := [.int .u64 (wv3 (rDn x y)), .int .u64 (wv2 (rDn x y)), .int .u64 (wv1 (rDn x y)), .int .u64 (wv0 (rDn x y))]) agt35 sz35 (T rfl rfl) H72 rfl) ?_
       refine lw_v (.agg #[.int .u64 (wv3 (rUp x y)), .int .u64 (wv2 (rUp x y)), .int .u64 (wv1 (rUp x y)), .int .u64 (wv0 (rUp x y)), .int .u64 (wv3 (rDn x y)), .int .u64 (wv2 (rDn x y)), .int .u64 (wv1 (rDn x y)), .int .u64 (wv0 (rDn x y))]) (dv_build (pv := [(0, .agg #[.int .u64 (wv3 (rUp x y)), .int .u64 (wv2 (rUp x y)), .int .u64 (wv1 (rUp x y)), .int .u64 (wv0 (rUp x y))]), (1, .agg #[.int .u64 (wv3 (rDn x y)), .int .u64 (wv2 (rDn x y)), .int .u64 (wv1 (rDn x y)), .int .u64 (wv0 (rDn x y))])]) (l := [.int .u64 (wv3 (rUp x y)), .int .u64 (wv2 (rUp x y)), .int .u64 (wv1 (rUp x y)), .int .u64 (wv0 (rUp x y)), .int .u64 (wv3 (rDn x y)), .int .u64 (wv2 (rDn x y)), .int .u64 (wv1 (rDn x y)), .int .u64 (wv0 (rDn x y))]) zc68 pl68 ⟨rfl, (T rfl rfl), ⟨rfl, (T rfl rfl), trivial⟩⟩ rfl) ?_
       have H77 := (s71.blk (n66.ext.blk (e62.blk (s55.blk (n50.ext.blk H52) (by omega)))) (by omega))
       refine lw_e (oe_store (v := .agg #[.int .u64 (wv3 (rUp x y)), .int .u64 (wv2 (rUp x y)), .int .u64 (wv1 (rUp x y)), .int .u64 (wv0 (rUp x y)), .int .u64 (wv3 (rDn x y)), .int .u64 (wv2 (rDn x y)), .int .u64 (wv1 (rDn x y)), .int .u64 (wv0 (rDn x y))]) (vs := [.int .u64 (wv3 (rUp x y)), .int .u64 (wv2 (rUp x y)), .int .u64 (wv1 (rUp x y)), .int .u64 (wv0 (rUp x y)), .int .u64 (wv3 (rDn x y)), .int .u64 (wv2 (rDn x y)), .int .u64 (wv1 (rDn x y)), .int .u64 (wv0 (rDn x y))]) (l := [.int .u64 (wv3 (rUp x y)), .int .u64 (wv2 (rUp x y)), .int .u64 (wv1 (rUp x y)), .int .u64 (wv0 (rUp x y)), .int .u64 (wv3 (rDn x y)), .int .u64 (wv2 (rDn x y)), .int .u64 (wv1 (rDn x y)), .int .u64 (wv0 (rDn x y))]) (T rfl rfl) (T rfl rfl) sz68 rfl rfl rfl H77 rfl ?_)
       intro w78 s79 H80
       have E81 := below_st E73 N9 s79
       refine lw_v (.bool true) (dv_assign C) ?_
       refine lw_nil ?_
       refine rk_ret Try.func108 (v := .tuple #[.agg #[.int .u64 (wv3 (rUp x y)), .int .u64 (wv2 (rUp x y)), .int .u64 (wv1 (rUp x y)), .int .u64 (wv0 (rUp x y)), .int .u64 (wv3 (rDn x y)), .int .u64 (wv2 (rDn x y)), .int .u64 (wv1 (rDn x y)), .int .u64 (wv0 (rDn x y))], .bool true]) (res2 Try.results108 (rv_cells (l := [.int .u64 (wv3 (rUp x y)), .int .u64 (wv2 (rUp x y)), .int .u64 (wv1 (rUp x y)), .int .u64 (wv0 (rUp x y)), .int .u64 (wv3 (rDn x y)), .int .u64 (wv2 (rDn x y)), .int .u64 (wv1 (rDn x y)), .int .u64 (wv0 (rDn x y))]) agt68 sz68 rfl rfl H80 rfl) (rv_tmp rfl rfl)) ⟨_, rfl, ?_⟩
       have hS : rFit x y := by exact ⟨(fun h0 => absurd (sgnI_zero.2 h0) (by assumption)), by first | assumption | simpa using ‹_›, by first | assumption | simpa using ‹_›⟩
       exact ⟨(tu2 (ag8 (vi (by rw [pkz_t hS])) (vi (by rw [pkz_t hS])) (vi (by rw [pkz_t hS])) (vi (by rw [pkz_t hS])) (vi (by rw [pkz_t hS])) (vi (by rw [pkz_t hS])) (vi (by rw [pkz_t hS])) (vi (by rw [pkz_t hS]))) (vt hS)), E81⟩
     · refine rk_ct (T rfl (congrArg Value.bool (decide_eq_true hb75))) ?_
       refine rk_seq ?_
       refine rk_reg ?_
       refine lw_v (.agg #[.int .u64 0, .int .u64 0, .int .u64 0, .int .u64 0, .int .u64 0, .int .u64 0, .int .u64 0, .int .u64 0]) (dv_build (pv := []) (l := [.int .u64 0, .int .u64 0, .int .u64 0, .int .u64 0, .int .u64 0, .int .u64 0, .int .u64 0, .int .u64 0]) zc68 pl68 trivial rfl) ?_
       have H82 := (s71.blk (n66.ext.blk (e62.blk (s55.blk (n50.ext.blk H52) (by omega)))) (by omega))
       refine lw_e (oe_store (v := .agg #[.int .u64 0, .int .u64 0, .int .u64 0, .int .u64 0, .int .u64 0, .int .u64 0, .int .u64 0, .int .u64 0]) (vs := [.int .u64 0, .int .u64 0, .int .u64 0, .int .u64 0, .int .u64 0, .int .u64 0, .int .u64 0, .int .u64 0]) (l := [.int .u64 0, .int .u64 0, .int .u64 0, .int .u64 0, .int .u64 0, .int .u64 0, .int .u64 0, .int .u64 0]) (T rfl rfl) (T rfl rfl) sz68 rfl rfl rfl H82 rfl ?_)
       intro w83 s84 H85
       have E86 := below_st E73 N9 s84
       refine lw_v (.bool false) (dv_assign C) ?_
       refine lw_nil ?_
       refine rk_ret Try.func108 (v := .tuple #[.agg #[.int .u64 0, .int .u64 0, .int .u64 0, .int .u64 0, .int .u64 0, .int .u64 0, .int .u64 0, .int .u64 0], .bool false]) (res2 Try.results108 (rv_cells (l := [.int .u64 0, .int .u64 0, .int .u64 0, .int .u64 0, .int .u64 0, .int .u64 0, .int .u64 0, .int .u64 0]) agt68 sz68 rfl rfl H85 rfl) (rv_tmp rfl rfl)) ⟨_, rfl, ?_⟩
       have hS : ¬ (rFit x y) := by intro hd; have h1 := hd.1; have h2 := hd.2.1; have h3 := hd.2.2; have h4 := @sgnI_zero y; first | contradiction | (exact absurd (h4.1 (by assumption)) h1) | simp_all
       exact ⟨(tu2 (ag8 (vi (wf3 hS)) (vi (wf2 hS)) (vi (wf1 hS)) (vi (wf0 hS)) (vi (wf3 hS)) (vi (wf2 hS)) (vi (wf1 hS)) (vi (wf0 hS))) (vf hS)), E86⟩
   · refine lw_no (d := 29) rfl rfl (congrArg Value.bool (decide_eq_true hb74)) ?_
     refine lw_no (d := 29) rfl rfl (congrArg Value.bool (decide_eq_true hb74)) ?_
     refine lw_v (.bool true) (dv_pick_t (T rfl (congrArg Value.bool (decide_eq_true hb74))) C) ?_
     refine lw_nil ?_
     refine rk_ct (T rfl rfl) ?_
     refine rk_seq ?_
     refine rk_reg ?_
     refine lw_v (.agg #[.int .u64 0, .int .u64 0, .int .u64 0, .int .u64 0, .int .u64 0, .int .u64 0, .int .u64 0, .int .u64 0]) (dv_build (pv := []) (l := [.int .u64 0, .int .u64 0, .int .u64 0, .int .u64 0, .int .u64 0, .int .u64 0, .int .u64 0, .int .u64 0]) zc68 pl68 trivial rfl) ?_
     have H87 := (s71.blk (n66.ext.blk (e62.blk (s55.blk (n50.ext.blk H52) (by omega)))) (by omega))
     refine lw_e (oe_store (v := .agg #[.int .u64 0, .int .u64 0, .int .u64 0, .int .u64 0, .int .u64 0, .int .u64 0, .int .u64 0, .int .u64 0]) (vs := [.int .u64 0, .int .u64 0, .int .u64 0, .int .u64 0, .int .u64 0, .int .u64 0, .int .u64 0, .int .u64 0]) (l := [.int .u64 0, .int .u64 0, .int .u64 0, .int .u64 0, .int .u64 0, .int .u64 0, .int .u64 0, .int .u64 0]) (T rfl rfl) (T rfl rfl) sz68 rfl rfl rfl H87 rfl ?_)
     intro w88 s89 H90
     have E91 := below_st E73 N9 s89
     refine lw_v (.bool false) (dv_assign C) ?_
     refine lw_nil ?_
     refine rk_ret Try.func108 (v := .tuple #[.agg #[.int .u64 0, .int .u64 0, .int .u64 0, .int .u64 0, .int .u64 0, .int .u64 0, .int .u64 0, .int .u64 0], .bool false]) (res2 Try.results108 (rv_cells (l := [.int .u64 0, .int .u64 0, .int .u64 0, .int .u64 0, .int .u64 0, .int .u64 0, .int .u64 0, .int .u64 0]) agt68 sz68 rfl rfl H90 rfl) (rv_tmp rfl rfl)) ⟨_, rfl, ?_⟩
     have hS : ¬ (rFit x y) := by intro hd; have h1 := hd.1; have h2 := hd.2.1; have h3 := hd.2.2; have h4 := @sgnI_zero y; first | contradiction | (exact absurd (h4.1 (by assumption)) h1) | simp_all
     exact ⟨(tu2 (ag8 (vi (wf3 hS)) (vi (wf2 hS)) (vi (wf1 hS)) (vi (wf0 hS)) (vi (wf3 hS)) (vi (wf2 hS)) (vi (wf1 hS)) (vi (wf0 hS))) (vf hS)), E91⟩
set_option maxHeartbeats 1000000 in
theorem l2Make_ok {w : World}  {na : Bool} {Aa : Option Addr} {la ca : Nat} {x : Int} {sx : Nat} (ha : Num 32 183 .u32 w na Aa la ca x sx) {nb : Bool} {Ab : Option Addr} {lb cb : Nat} {y : Int} {sy : Nat} (hb : Num 32 183 .u32 w nb Ab lb cb y sy) (hbsx : sx ≤ 100000) (hbsy : sy ≤ 100000) (hy : y ≠ 0) : Ct Try.prog 106 [.agg #[.bool na, .slice Aa la ca], .agg #[.bool nb, .slice Ab lb cb]] w fun v w1 => ∃ nr0_ A0_ l0_ c0_ nr1_ A1_ l1_ c1_, v = .agg #[.bool nr0_, .slice A0_ l0_ c0_, .bool nr1_, .slice A1_ l1_ c1_] ∧ Ext w w1 ∧ Num 32 183 .u32 w1 nr0_ A0_ l0_ c0_ (rUp x y) (sx) ∧ Num 32 183 .u32 w1 nr1_ A1_ l1_ c1_ (rDn x y) (sy) := by
 refine ct_run (n := 34) Try.func106 rfl Try.ntmps106 rfl ?_
 have E0 : Below w.heap.size w w := Below.refl _ _
 have lha := Num.len (by decide) ha
 have lhb := Num.len (by decide) hb
 refine rk_seq ?_
 refine rk_reg ?_
 refine lw_e (oe_box (v := .agg #[.bool na, .slice Aa la ca]) (cs := #[.bool na, .slice Aa la ca]) (T rfl rfl) rfl ?_)
 intro b1 w2 n3
 have N4 : w.heap.size ≤ b1 := n3.eq ▸ E0.size
 have E5 := below_ext E0 E0.size n3.ext
 refine lw_e (oe_box (v := .agg #[.bool nb, .slice Ab lb cb]) (cs := #[.bool nb, .slice Ab lb cb]) (T rfl rfl) rfl ?_)
 intro b6 w7 n8
 have N9 : w.heap.size ≤ b6 := n8.eq ▸ E5.size
 have : b1 < b6 := n8.eq ▸ lt_of_blk n3.blk
 have E10 := below_ext E5 E5.size n8.ext
 refine lw_e (oe_alloc ze136 ?_)
 intro b11 w12 n13
 have N14 : w.heap.size ≤ b11 := n13.eq ▸ E10.size
 have : b6 < b11 := n13.eq ▸ lt_of_blk n8.blk
 have E15 := below_ext E10 E10.size n13.ext
 refine lw_nil ?_
 refine rk_seq ?_
 refine rk_seq ?_
 refine rk_reg ?_
 refine lw_v (.pointer (some ⟨b6, 0, none⟩)) (dv_fieldAddr (a := ⟨b6, 0, none⟩) (a' := ⟨b6, 0, none⟩) fo100_0 (T rfl rfl) rfl) ?_
 have H16 := (n13.ext.blk n8.blk)
 refine lw_v (.bool nb) (dv_load1 (b := b6) (o := 0) agt4 (T rfl rfl) H16 rfl) ?_
 refine lw_nil ?_
 rcases Bool.eq_false_or_eq_true (nb) with hb17 | hb17
 · refine rk_ct (T rfl (congrArg Value.bool hb17)) ?_
   refine rk_join (fun fr wl => ∃ (nr24 : Bool) (A25 : Option Addr) (n26 : Nat) (c27 : Nat) (nr34 : Bool) (A35 : Option Addr) (n36 : Nat) (c37 : Nat), fr 2 = .pointer (some ⟨b1, 0, none⟩) ∧ fr 3 = .pointer (some ⟨b6, 0, none⟩) ∧ fr 4 = .pointer (some ⟨b11, 0, none⟩) ∧ Below w.heap.size w wl ∧ wl.heap[b1]? = some (.cells #[.bool nr24, .slice A25 n26 c27] 100) ∧ wl.heap[b6]? = some (.cells #[.bool nr34, .slice A35 n36 c37] 100) ∧ wl.heap[b11]? = some (.cells #[.bool false, .slice none 0 0, .bool false, .slice none 0 0] 136) ∧ Num 32 183 .u32 wl nr24 A25 n26 c27 (-x) sx ∧ Num 32 183 .u32 wl nr34 A35 n36 c37 (-y) sy) ?_ (fun hj54 => ?_)
   · intro fr55 w52 hI53
     obtain ⟨nr24, A25, n26, c27, nr34, A35, n36, c37, f56, f57, f58, E59, H60, H61, H62, h63, h64⟩ := hI53
     have lh63 := Num.len (by decide) h63
     have lh64 := Num.len (by decide) h64
     have : w.heap.size ≤ b1 := N4
     have : w.heap.size ≤ b6 := N9
     have : w.heap.size ≤ b11 := N14
     refine rk_seq ?_
     refine rk_reg ?_
     refine lw_v (.agg #[.bool nr24, .slice A25 n26 c27]) (dv_loads (l := [.bool nr24, .slice A25 n26 c27]) agt100 sz100 (T rfl f56) H60 rfl) ?_
     refine lw_v (.agg #[.bool nr34, .slice A35 n36 c37]) (dv_loads (l := [.bool nr34, .slice A35 n36 c37]) agt100 sz100 (T rfl f57) H61 rfl) ?_
     refine lw_e (oe_callf (vs := [.agg #[.bool nr24, .slice A25 n26 c27], .agg #[.bool nr34, .slice A35 n36 c37]]) co129 (ar2 (T rfl rfl) (T rfl rfl)) (l1Gcd_ok h63 h64 (by first | decide | omega) (by first | decide | omega)) ?_)
     rintro _ w70 ⟨nr65, A66, n67, c68, rfl, e71, h69⟩
     have E72 := below_ext E59 E59.size e71
     have lh69 := Num.len (by decide) h69
     refine lw_e (oe_alloc ze100 ?_)
     intro b73 w74 n75
     have N76 : w.heap.size ≤ b73 := n75.eq ▸ E72.size
     have H77 := (e71.blk H60)
     have : b1 < b73 := n75.eq ▸ lt_of_blk H77
     have H78 := (e71.blk H61)
     have : b6 < b73 := n75.eq ▸ lt_of_blk H78
     have H79 := (e71.blk H62)
     have : b11 < b73 := n75.eq ▸ lt_of_blk H79
     have E80 := below_ext E72 E72.size n75.ext
     refine lw_e (oe_store (v := .agg #[.bool nr65, .slice A66 n67 c68]) (vs := [.bool nr65, .slice A66 n67 c68]) (l := [.bool nr65, .slice A66 n67 c68]) (T rfl rfl) (T rfl rfl) sz100 rfl rfl rfl n75.blk rfl ?_)
     intro w81 s82 H83
     have E84 := below_st E80 N76 s82
     refine lw_nil ?_
     refine rk_seq ?_
     refine rk_seq ?_
     refine rk_any (fun w => w.heap[b73]? = some (.cells #[.bool nr65, .slice A66 n67 c68] 100)) [] mo ?_
     intro w85 d86
     have E87 := below_ext E84 E84.size d86.ext
     have H88 := (d86.ext.blk H83)
     refine aw_load 0 (.agg #[.bool nr65, .slice A66 n67 c68]) rfl (by kernel_rfl) .none H88 (fun _ s => dv_loads (l := [.bool nr65, .slice A66 n67 c68]) agt100 sz100 (T rfl rfl) s rfl) ?_
     refine aw_one 1 rfl (by kernel_rfl) .none (oe_callf (vs := [.int .i64 1]) co100 (ar1 C) (l1Int_ok  (by omega)) ?_)
     rintro _ w94 ⟨nr89, A90, n91, c92, rfl, e95, h93⟩
     have E96 := below_ext E87 E87.size e95
     have lh93 := Num.len (by decide) h93
     have H97 := (e95.blk H88)
     refine ⟨.inr H97, ?_⟩
     have h98 := ((((h69.ext n75.ext).st s82 n75.blk (by decide)).ext d86.ext).ext e95)
     refine aw_one 2 rfl (by kernel_rfl) .none (oe_callf (vs := [.agg #[.bool nr65, .slice A66 n67 c68], .agg #[.bool nr89, .slice A90 n91 c92]]) co128 (ar2 (T rfl rfl) (T rfl rfl)) (l1Cmp_ok h98 h93 (by first | decide | omega) (by first | decide | omega)) ?_)
     rintro _ w99 ⟨rfl, e100⟩
     have E101 := below_ext E96 E96.size e100
     have H102 := (e100.blk H97)
     refine ⟨.inr H102, ?_⟩
     refine aw_pure 3 (.bool (decide ((sgnI ((gI (-x) (-y)) - 1)) ≠ 0))) rfl (by kernel_rfl) .none H102 (fun _ => dv_neq (a := sgnI ((gI (-x) (-y)) - 1)) (b := 0) (T rfl rfl) C) ?_
     refine aw_done (by kernel_rfl) ?_
     by_cases hb103 : (sgnI ((gI (-x) (-y)) - 1)) ≠ 0
     · refine rk_ct (T rfl (congrArg Value.bool (decide_eq_true hb103))) ?_
       refine rk_seq ?_
       refine rk_reg ?_
       have H104 := (e100.blk (e95.blk (d86.ext.blk (s82.blk (n75.ext.blk H77) (by omega)))))
       refine lw_v (.agg #[.bool nr24, .slice A25 n26 c27]) (dv_loads (l := [.bool nr24, .slice A25 n26 c27]) agt100 sz100 (T rfl f56) H104 rfl) ?_
       refine lw_v (.agg #[.bool nr65, .slice A66 n67 c68]) (dv_loads (l := [.bool nr65, .slice A66 n67 c68]) agt100 sz100 (T rfl rfl) H102 rfl) ?_
       have h105 := ((((((h63.ext e71).ext n75.ext).st s82 n75.blk (by decide)).ext d86.ext).ext e95).ext e100)
       have h106 := (h98.ext e100)
       refine lw_e (oe_callf (vs := [.agg #[.bool nr24, .slice A25 n26 c27], .agg #[.bool nr65, .slice A66 n67 c68]]) co152 (ar2 (T rfl rfl) (T rfl rfl)) (l1Div_ok h105 h106 (Int.ne_of_gt (gI_pos (Int.neg_ne_zero.2 hy))) (by first | decide | omega) (by first | decide | omega)) ?_)
       rintro _ w117 ⟨nr107, A108, n109, c110, nr111, A112, n113, c114, rfl, e118, h115, h116⟩
       have E119 := below_ext E101 E101.size e118
       have lh115 := Num.len (by decide) h115
       have lh116 := Num.len (by decide) h116
       refine lw_v (.tuple #[.agg #[.bool nr107, .slice A108 n109 c110], .agg #[.bool nr111, .slice A112 n113 c114]]) (dv_move (T rfl rfl)) ?_
       refine lw_v (.agg #[.bool nr107, .slice A108 n109 c110]) (dv_extract (vs := #[.agg #[.bool nr107, .slice A108 n109 c110], .agg #[.bool nr111, .slice A112 n113 c114]]) (T rfl rfl) rfl) ?_
       refine lw_v (.agg #[.bool nr111, .slice A112 n113 c114]) (dv_extract (vs := #[.agg #[.bool nr107, .slice A108 n109 c110], .agg #[.bool nr111, .slice A112 n113 c114]]) (T rfl rfl) rfl) ?_
       have H120 := (e118.blk H104)
       refine lw_e (oe_store (v := .agg #[.bool nr107, .slice A108 n109 c110]) (vs := [.bool nr107, .slice A108 n109 c110]) (l := [.bool nr107, .slice A108 n109 c110]) (T rfl f56) (T rfl rfl) sz100 rfl rfl rfl H120 rfl ?_)
       intro w121 s122 H123
       have E124 := below_st E119 N4 s122
       refine lw_nil ?_
       refine rk_reg ?_
       have H125 := (s122.blk (e118.blk (e100.blk (e95.blk (d86.ext.blk (s82.blk (n75.ext.blk H78) (by omega)))))) (by omega))
       refine lw_v (.agg #[.bool nr34, .slice A35 n36 c37]) (dv_loads (l := [.bool nr34, .slice A35 n36 c37]) agt100 sz100 (T rfl f57) H125 rfl) ?_
       have H126 := (s122.blk (e118.blk H102) (by omega))
       refine lw_v (.agg #[.bool nr65, .slice A66 n67 c68]) (dv_loads (l := [.bool nr65, .slice A66 n67 c68]) agt100 sz100 (T rfl rfl) H126 rfl) ?_
       have h127 := ((((((((h64.ext e71).ext n75.ext).st s82 n75.blk (by decide)).ext d86.ext).ext e95).ext e100).ext e118).st s122 H120 (by decide))
       have h128 := ((h106.ext e118).st s122 H120 (by decide))
       refine lw_e (oe_callf (vs := [.agg #[.bool nr34, .slice A35 n36 c37], .agg #[.bool nr65, .slice A66 n67 c68]]) co152 (ar2 (T rfl rfl) (T rfl rfl)) (l1Div_ok h127 h128 (Int.ne_of_gt (gI_pos (Int.neg_ne_zero.2 hy))) (by first | decide | omega) (by first | decide | omega)) ?_)
       rintro _ w139 ⟨nr129, A130, n131, c132, nr133, A134, n135, c136, rfl, e140, h137, h138⟩
       have E141 := below_ext E124 E124.size e140
       have lh137 := Num.len (by decide) h137
       have lh138 := Num.len (by decide) h138
       refine lw_v (.tuple #[.agg #[.bool nr129, .slice A130 n131 c132], .agg #[.bool nr133, .slice A134 n135 c136]]) (dv_move (T rfl rfl)) ?_
       refine lw_v (.agg #[.bool nr129, .slice A130 n131 c132]) (dv_extract (vs := #[.agg #[.bool nr129, .slice A130 n131 c132], .agg #[.bool nr133, .slice A134 n135 c136]]) (T rfl rfl) rfl) ?_
       refine lw_v (.agg #[.bool nr133, .slice A134 n135 c136]) (dv_extract (vs := #[.agg #[.bool nr129, .slice A130 n131 c132], .agg #[.bool nr133, .slice A134 n135 c136]]) (T rfl rfl) rfl) ?_
       have H142 := (e140.blk H125)
       refine lw_e (oe_store (v := .agg #[.bool nr129, .slice A130 n131 c132]) (vs := [.bool nr129, .slice A130 n131 c132]) (l := [.bool nr129, .slice A130 n131 c132]) (T rfl f57) (T rfl rfl) sz100 rfl rfl rfl H142 rfl ?_)
       intro w143 s144 H145
       have E146 := below_st E141 N9 s144
       refine lw_nil ?_
       refine rk_seq ?_
       refine rk_reg ?_
       have H147 := (s144.blk (e140.blk H123) (by omega))
       refine lw_v (.agg #[.bool nr107, .slice A108 n109 c110]) (dv_loads (l := [.bool nr107, .slice A108 n109 c110]) agt100 sz100 (T rfl f56) H147 rfl) ?_
       refine lw_v (.agg #[.bool nr129, .slice A130 n131 c132]) (dv_loads (l := [.bool nr129, .slice A130 n131 c132]) agt100 sz100 (T rfl f57) H145 rfl) ?_
       refine lw_v (.agg #[.bool nr107, .slice A108 n109 c110, .bool nr129, .slice A130 n131 c132]) (dv_build (pv := [(0, .agg #[.bool nr107, .slice A108 n109 c110]), (1, .agg #[.bool nr129, .slice A130 n131 c132])]) (l := [.bool nr107, .slice A108 n109 c110, .bool nr129, .slice A130 n131 c132]) zc136 pl136 ⟨rfl, (T rfl rfl), ⟨rfl, (T rfl rfl), trivial⟩⟩ rfl) ?_
       have H148 := (s144.blk (e140.blk (s122.blk (e118.blk (e100.blk (e95.blk (d86.ext.blk (s82.blk (n75.ext.blk H79) (by omega)))))) (by omega))) (by omega))
       refine lw_e (oe_store (v := .agg #[.bool nr107, .slice A108 n109 c110, .bool nr129, .slice A130 n131 c132]) (vs := [.bool nr107, .slice A108 n109 c110, .bool nr129, .slice A130 n131 c132]) (l := [.bool nr107, .slice A108 n109 c110, .bool nr129, .slice A130 n131 c132]) (T rfl f58) (T rfl rfl) sz136 rfl rfl rfl H148 rfl ?_)
       intro w149 s150 H151
       have E152 := below_st E146 N14 s150
       refine lw_nil ?_
       refine rk_ret Try.func106 (v := .agg #[.bool nr107, .slice A108 n109 c110, .bool nr129, .slice A130 n131 c132]) (res1 Try.results106 (rv_cells (l := [.bool nr107, .slice A108 n109 c110, .bool nr129, .slice A130 n131 c132]) agt136 sz136 rfl f58 H151 rfl)) ⟨_, rfl, ?_⟩
       have h153 := ((((h115.st s122 H120 (by decide)).ext e140).st s144 H142 (by decide)).st s150 H148 (by decide))
       have h154 := ((h137.st s144 H142 (by decide)).st s150 H148 (by decide))
       exact ⟨_, _, _, _, _, _, _, _, rfl, E152, h153.to ((by unfold rUp; rw [if_pos (hb.neg_iff.1 (by assumption)), gI_neg])) (Nat.le_refl _), h154.to ((by unfold rDn; rw [if_pos (hb.neg_iff.1 (by assumption)), gI_neg])) (Nat.le_refl _)⟩
     · refine rk_cf (T rfl (congrArg Value.bool (decide_eq_false hb103))) ?_
       refine rk_skip ?_
       refine rk_seq ?_
       refine rk_reg ?_
       have H155 := (e100.blk (e95.blk (d86.ext.blk (s82.blk (n75.ext.blk H77) (by omega)))))
       refine lw_v (.agg #[.bool nr24, .slice A25 n26 c27]) (dv_loads (l := [.bool nr24, .slice A25 n26 c27]) agt100 sz100 (T rfl f56) H155 rfl) ?_
       have H156 := (e100.blk (e95.blk (d86.ext.blk (s82.blk (n75.ext.blk H78) (by omega)))))
       refine lw_v (.agg #[.bool nr34, .slice A35 n36 c37]) (dv_loads (l := [.bool nr34, .slice A35 n36 c37]) agt100 sz100 (T rfl f57) H156 rfl) ?_
       refine lw_v (.agg #[.bool nr24, .slice A25 n26 c27, .bool nr34, .slice A35 n36 c37]) (dv_build (pv := [(0, .agg #[.bool nr24, .slice A25 n26 c27]), (1, .agg #[.bool nr34, .slice A35 n36 c37])]) (l := [.bool nr24, .slice A25 n26 c27, .bool nr34, .slice A35 n36 c37]) zc136 pl136 ⟨rfl, (T rfl rfl), ⟨rfl, (T rfl rfl), trivial⟩⟩ rfl) ?_
       have H157 := (e100.blk (e95.blk (d86.ext.blk (s82.blk (n75.ext.blk H79) (by omega)))))
       refine lw_e (oe_store (v := .agg #[.bool nr24, .slice A25 n26 c27, .bool nr34, .slice A35 n36 c37]) (vs := [.bool nr24, .slice A25 n26 c27, .bool nr34, .slice A35 n36 c37]) (l := [.bool nr24, .slice A25 n26 c27, .bool nr34, .slice A35 n36 c37]) (T rfl f58) (T rfl rfl) sz136 rfl rfl rfl H157 rfl ?_)
       intro w158 s159 H160
       have E161 := below_st E101 N14 s159
       refine lw_nil ?_
       refine rk_ret Try.func106 (v := .agg #[.bool nr24, .slice A25 n26 c27, .bool nr34, .slice A35 n36 c37]) (res1 Try.results106 (rv_cells (l := [.bool nr24, .slice A25 n26 c27, .bool nr34, .slice A35 n36 c37]) agt136 sz136 rfl f58 H160 rfl)) ⟨_, rfl, ?_⟩
       have h162 := (((((((h63.ext e71).ext n75.ext).st s82 n75.blk (by decide)).ext d86.ext).ext e95).ext e100).st s159 H157 (by decide))
       have h163 := (((((((h64.ext e71).ext n75.ext).st s82 n75.blk (by decide)).ext d86.ext).ext e95).ext e100).st s159 H157 (by decide))
       exact ⟨_, _, _, _, _, _, _, _, rfl, E161, h162.to ((by unfold rUp; rw [if_pos (hb.neg_iff.1 (by assumption)), ← gI_neg x y, show gI (-x) (-y) = 1 by have := @sgnI_zero (gI (-x) (-y) - 1); omega, Int.ediv_one])) (Nat.le_refl _), h163.to ((by unfold rDn; rw [if_pos (hb.neg_iff.1 (by assumption)), ← gI_neg x y, show gI (-x) (-y) = 1 by have := @sgnI_zero (gI (-x) (-y) - 1); omega, Int.ediv_one])) (Nat.le_refl _)⟩
   · refine rk_any (fun _ => True) [] mo ?_
     intro w164 d165
     have E166 := below_ext E15 E15.size d165.ext
     have H167 := (d165.ext.blk (n13.ext.blk (n8.ext.blk n3.blk)))
     have H168 := (d165.ext.blk H16)
     refine aw_two 0 2 rfl rfl (by kernel_rfl) .none .none ?_ ?_
     · refine id (DV.oe (dv_loads (l := [.bool na, .slice Aa la ca]) agt100 sz100 (T rfl rfl) H167 rfl) ?_)
       refine ⟨.inr trivial, ?_⟩
       refine aw_two 1 2 rfl rfl (by kernel_rfl) .none .none ?_ ?_
       · have h169 := ((((ha.ext n3.ext).ext n8.ext).ext n13.ext).ext d165.ext)
         refine id (oe_callf (vs := [.agg #[.bool na, .slice Aa la ca]]) co151 (ar1 (T rfl rfl)) (l1Neg_ok h169 ) ?_)
         rintro _ w175 ⟨nr170, A171, n172, c173, rfl, e176, h174⟩
         have E177 := below_ext E166 E166.size e176
         have lh174 := Num.len (by decide) h174
         refine ⟨.inr trivial, ?_⟩
         have H178 := (e176.blk H168)
         refine aw_one 2 rfl (by kernel_rfl) .none (DV.oe (dv_loads (l := [.bool nb, .slice Ab lb cb]) agt100 sz100 (T rfl rfl) H178 rfl) ?_)
         refine ⟨.inr trivial, ?_⟩
         have h179 := (((((hb.ext n3.ext).ext n8.ext).ext n13.ext).ext d165.ext).ext e176)
         refine aw_one 3 rfl (by kernel_rfl) .none (oe_callf (vs := [.agg #[.bool nb, .slice Ab lb cb]]) co151 (ar1 (T rfl rfl)) (l1Neg_ok h179 ) ?_)
         rintro _ w185 ⟨nr180, A181, n182, c183, rfl, e186, h184⟩
         have E187 := below_ext E177 E177.size e186
         have lh184 := Num.len (by decide) h184
         refine ⟨.inr trivial, ?_⟩
         have H188 := (e186.blk (e176.blk H167))
         refine aw_one 4 rfl (by kernel_rfl) .none (oe_store (v := .agg #[.bool nr170, .slice A171 n172 c173]) (vs := [.bool nr170, .slice A171 n172 c173]) (l := [.bool nr170, .slice A171 n172 c173]) (T rfl rfl) (T rfl rfl) sz100 rfl rfl rfl H188 rfl ?_)
         intro w189 s190 H191
         have E192 := below_st E187 N4 s190
         refine ⟨.inr trivial, ?_⟩
         have H193 := (s190.blk (e186.blk H178) (by omega))
         refine aw_one 5 rfl (by kernel_rfl) .none (oe_store (v := .agg #[.bool nr180, .slice A181 n182 c183]) (vs := [.bool nr180, .slice A181 n182 c183]) (l := [.bool nr180, .slice A181 n182 c183]) (T rfl rfl) (T rfl rfl) sz100 rfl rfl rfl H193 rfl ?_)
         intro w194 s195 H196
         have E197 := below_st E192 N9 s195
         refine ⟨.inr trivial, ?_⟩
         refine aw_done (by kernel_rfl) ?_
         have H198 := (s195.blk H191 (by omega))
         have H199 := (s195.blk (s190.blk (e186.blk (e176.blk (d165.ext.blk n13.blk))) (by omega)) (by omega))
         have h200 := (((h174.ext e186).st s190 H188 (by decide)).st s195 H193 (by decide))
         have h201 := ((h184.st s190 H188 (by decide)).st s195 H193 (by decide))
         exact hj54 _ _ ⟨nr170, A171, n172, c173, nr180, A181, n182, c183, rfl, rfl, rfl, E197, H198, H196, H199, h200, h201⟩
       · refine id (DV.oe (dv_loads (l := [.bool nb, .slice Ab lb cb]) agt100 sz100 (T rfl rfl) H168 rfl) ?_)
         refine ⟨.inr trivial, ?_⟩
         have h202 := ((((ha.ext n3.ext).ext n8.ext).ext n13.ext).ext d165.ext)
         refine aw_one 1 rfl (by kernel_rfl) .none (oe_callf (vs := [.agg #[.bool na, .slice Aa la ca]]) co151 (ar1 (T rfl rfl)) (l1Neg_ok h202 ) ?_)
         rintro _ w208 ⟨nr203, A204, n205, c206, rfl, e209, h207⟩
         have E210 := below_ext E166 E166.size e209
         have lh207 := Num.len (by decide) h207
         refine ⟨.inr trivial, ?_⟩
         have h211 := (((((hb.ext n3.ext).ext n8.ext).ext n13.ext).ext d165.ext).ext e209)
         refine aw_one 3 rfl (by kernel_rfl) .none (oe_callf (vs := [.agg #[.bool nb, .slice Ab lb cb]]) co151 (ar1 (T rfl rfl)) (l1Neg_ok h211 ) ?_)
         rintro _ w217 ⟨nr212, A213, n214, c215, rfl, e218, h216⟩
         have E219 := below_ext E210 E210.size e218
         have lh216 := Num.len (by decide) h216
         refine ⟨.inr trivial, ?_⟩
         have H220 := (e218.blk (e209.blk H167))
         refine aw_one 4 rfl (by kernel_rfl) .none (oe_store (v := .agg #[.bool nr203, .slice A204 n205 c206]) (vs := [.bool nr203, .slice A204 n205 c206]) (l := [.bool nr203, .slice A204 n205 c206]) (T rfl rfl) (T rfl rfl) sz100 rfl rfl rfl H220 rfl ?_)
         intro w221 s222 H223
         have E224 := below_st E219 N4 s222
         refine ⟨.inr trivial, ?_⟩
         have H225 := (s222.blk (e218.blk (e209.blk H168)) (by omega))
         refine aw_one 5 rfl (by kernel_rfl) .none (oe_store (v := .agg #[.bool nr212, .slice A213 n214 c215]) (vs := [.bool nr212, .slice A213 n214 c215]) (l := [.bool nr212, .slice A213 n214 c215]) (T rfl rfl) (T rfl rfl) sz100 rfl rfl rfl H225 rfl ?_)
         intro w226 s227 H228
         have E229 := below_st E224 N9 s227
         refine ⟨.inr trivial, ?_⟩
         refine aw_done (by kernel_rfl) ?_
         have H230 := (s227.blk H223 (by omega))
         have H231 := (s227.blk (s222.blk (e218.blk (e209.blk (d165.ext.blk n13.blk))) (by omega)) (by omega))
         have h232 := (((h207.ext e218).st s222 H220 (by decide)).st s227 H225 (by decide))
         have h233 := ((h216.st s222 H220 (by decide)).st s227 H225 (by decide))
         exact hj54 _ _ ⟨nr203, A204, n205, c206, nr212, A213, n214, c215, rfl, rfl, rfl, E229, H230, H228, H231, h232, h233⟩
     · refine id (DV.oe (dv_loads (l := [.bool nb, .slice Ab lb cb]) agt100 sz100 (T rfl rfl) H168 rfl) ?_)
       refine ⟨.inr trivial, ?_⟩
       refine aw_one 0 rfl (by kernel_rfl) .none (DV.oe (dv_loads (l := [.bool na, .slice Aa la ca]) agt100 sz100 (T rfl rfl) H167 rfl) ?_)
       refine ⟨.inr trivial, ?_⟩
       have h234 := ((((ha.ext n3.ext).ext n8.ext).ext n13.ext).ext d165.ext)
       refine aw_one 1 rfl (by kernel_rfl) .none (oe_callf (vs := [.agg #[.bool na, .slice Aa la ca]]) co151 (ar1 (T rfl rfl)) (l1Neg_ok h234 ) ?_)
       rintro _ w240 ⟨nr235, A236, n237, c238, rfl, e241, h239⟩
       have E242 := below_ext E166 E166.size e241
       have lh239 := Num.len (by decide) h239
       refine ⟨.inr trivial, ?_⟩
       have h243 := (((((hb.ext n3.ext).ext n8.ext).ext n13.ext).ext d165.ext).ext e241)
       refine aw_one 3 rfl (by kernel_rfl) .none (oe_callf (vs := [.agg #[.bool nb, .slice Ab lb cb]]) co151 (ar1 (T rfl rfl)) (l1Neg_ok h243 ) ?_)
       rintro _ w249 ⟨nr244, A245, n246, c247, rfl, e250, h248⟩
       have E251 := below_ext E242 E242.size e250
       have lh248 := Num.len (by decide) h248
       refine ⟨.inr trivial, ?_⟩
       have H252 := (e250.blk (e241.blk H167))
       refine aw_one 4 rfl (by kernel_rfl) .none (oe_store (v := .agg #[.bool nr235, .slice A236 n237 c238]) (vs := [.bool nr235, .slice A236 n237 c238]) (l := [.bool nr235, .slice A236 n237 c238]) (T rfl rfl) (T rfl rfl) sz100 rfl rfl rfl H252 rfl ?_)
       intro w253 s254 H255
       have E256 := below_st E251 N4 s254
       refine ⟨.inr trivial, ?_⟩
       have H257 := (s254.blk (e250.blk (e241.blk H168)) (by omega))
       refine aw_one 5 rfl (by kernel_rfl) .none (oe_store (v := .agg #[.bool nr244, .slice A245 n246 c247]) (vs := [.bool nr244, .slice A245 n246 c247]) (l := [.bool nr244, .slice A245 n246 c247]) (T rfl rfl) (T rfl rfl) sz100 rfl rfl rfl H257 rfl ?_)
       intro w258 s259 H260
       have E261 := below_st E256 N9 s259
       refine ⟨.inr trivial, ?_⟩
       refine aw_done (by kernel_rfl) ?_
       have H262 := (s259.blk H255 (by omega))
       have H263 := (s259.blk (s254.blk (e250.blk (e241.blk (d165.ext.blk n13.blk))) (by omega)) (by omega))
       have h264 := (((h239.ext e250).st s254 H252 (by decide)).st s259 H257 (by decide))
       have h265 := ((h248.st s254 H252 (by decide)).st s259 H257 (by decide))
       exact hj54 _ _ ⟨nr235, A236, n237, c238, nr244, A245, n246, c247, rfl, rfl, rfl, E261, H262, H260, H263, h264, h265⟩
 · refine rk_cf (T rfl (congrArg Value.bool hb17)) ?_
   refine rk_skip ?_
   refine rk_seq ?_
   refine rk_reg ?_
   have H266 := (n13.ext.blk (n8.ext.blk n3.blk))
   refine lw_v (.agg #[.bool na, .slice Aa la ca]) (dv_loads (l := [.bool na, .slice Aa la ca]) agt100 sz100 (T rfl rfl) H266 rfl) ?_
   refine lw_v (.agg #[.bool nb, .slice Ab lb cb]) (dv_loads (l := [.bool nb, .slice Ab lb cb]) agt100 sz100 (T rfl rfl) H16 rfl) ?_
   have h267 := (((ha.ext n3.ext).ext n8.ext).ext n13.ext)
   have h268 := (((hb.ext n3.ext).ext n8.ext).ext n13.ext)
   refine lw_e (oe_callf (vs := [.agg #[.bool na, .slice Aa la ca], .agg #[.bool nb, .slice Ab lb cb]]) co129 (ar2 (T rfl rfl) (T rfl rfl)) (l1Gcd_ok h267 h268 (by first | decide | omega) (by first | decide | omega)) ?_)
   rintro _ w274 ⟨nr269, A270, n271, c272, rfl, e275, h273⟩
   have E276 := below_ext E15 E15.size e275
   have lh273 := Num.len (by decide) h273
   refine lw_e (oe_alloc ze100 ?_)
   intro b277 w278 n279
   have N280 : w.heap.size ≤ b277 := n279.eq ▸ E276.size
   have H281 := (e275.blk n13.blk)
   have : b11 < b277 := n279.eq ▸ lt_of_blk H281
   have E282 := below_ext E276 E276.size n279.ext
   refine lw_e (oe_store (v := .agg #[.bool nr269, .slice A270 n271 c272]) (vs := [.bool nr269, .slice A270 n271 c272]) (l := [.bool nr269, .slice A270 n271 c272]) (T rfl rfl) (T rfl rfl) sz100 rfl rfl rfl n279.blk rfl ?_)
   intro w283 s284 H285
   have E286 := below_st E282 N280 s284
   refine lw_nil ?_
   refine rk_seq ?_
   refine rk_seq ?_
   refine rk_any (fun w => w.heap[b277]? = some (.cells #[.bool nr269, .slice A270 n271 c272] 100)) [] mo ?_
   intro w287 d288
   have E289 := below_ext E286 E286.size d288.ext
   have H290 := (d288.ext.blk H285)
   refine aw_load 0 (.agg #[.bool nr269, .slice A270 n271 c272]) rfl (by kernel_rfl) .none H290 (fun _ s => dv_loads (l := [.bool nr269, .slice A270 n271 c272]) agt100 sz100 (T rfl rfl) s rfl) ?_
   refine aw_one 1 rfl (by kernel_rfl) .none (oe_callf (vs := [.int .i64 1]) co100 (ar1 C) (l1Int_ok  (by omega)) ?_)
   rintro _ w296 ⟨nr291, A292, n293, c294, rfl, e297, h295⟩
   have E298 := below_ext E289 E289.size e297
   have lh295 := Num.len (by decide) h295
   have H299 := (e297.blk H290)
   refine ⟨.inr H299, ?_⟩
   have h300 := ((((h273.ext n279.ext).st s284 n279.blk (by decide)).ext d288.ext).ext e297)
   refine aw_one 2 rfl (by kernel_rfl) .none (oe_callf (vs := [.agg #[.bool nr269, .slice A270 n271 c272], .agg #[.bool nr291, .slice A292 n293 c294]]) co128 (ar2 (T rfl rfl) (T rfl rfl)) (l1Cmp_ok h300 h295 (by first | decide | omega) (by first | decide | omega)) ?_)
   rintro _ w301 ⟨rfl, e302⟩
   have E303 := below_ext E298 E298.size e302
   have H304 := (e302.blk H299)
   refine ⟨.inr H304, ?_⟩
   refine aw_pure 3 (.bool (decide ((sgnI ((gI x y) - 1)) ≠ 0))) rfl (by kernel_rfl) .none H304 (fun _ => dv_neq (a := sgnI ((gI x y) - 1)) (b := 0) (T rfl rfl) C) ?_
   refine aw_done (by kernel_rfl) ?_
   by_cases hb305 : (sgnI ((gI x y) - 1)) ≠ 0
   · refine rk_ct (T rfl (congrArg Value.bool (decide_eq_true hb305))) ?_
     refine rk_seq ?_
     refine rk_reg ?_
     have H306 := (e302.blk (e297.blk (d288.ext.blk (s284.blk (n279.ext.blk (e275.blk H266)) (by omega)))))
     refine lw_v (.agg #[.bool na, .slice Aa la ca]) (dv_loads (l := [.bool na, .slice Aa la ca]) agt100 sz100 (T rfl rfl) H306 rfl) ?_
     refine lw_v (.agg #[.bool nr269, .slice A270 n271 c272]) (dv_loads (l := [.bool nr269, .slice A270 n271 c272]) agt100 sz100 (T rfl rfl) H304 rfl) ?_
     have h307 := ha.ext E303
     have h308 := (h300.ext e302)
     refine lw_e (oe_callf (vs := [.agg #[.bool na, .slice Aa la ca], .agg #[.bool nr269, .slice A270 n271 c272]]) co152 (ar2 (T rfl rfl) (T rfl rfl)) (l1Div_ok h307 h308 (Int.ne_of_gt (gI_pos hy)) (by first | decide | omega) (by first | decide | omega)) ?_)
     rintro _ w319 ⟨nr309, A310, n311, c312, nr313, A314, n315, c316, rfl, e320, h317, h318⟩
     have E321 := below_ext E303 E303.size e320
     have lh317 := Num.len (by decide) h317
     have lh318 := Num.len (by decide) h318
     refine lw_v (.tuple #[.agg #[.bool nr309, .slice A310 n311 c312], .agg #[.bool nr313, .slice A314 n315 c316]]) (dv_move (T rfl rfl)) ?_
     refine lw_v (.agg #[.bool nr309, .slice A310 n311 c312]) (dv_extract (vs := #[.agg #[.bool nr309, .slice A310 n311 c312], .agg #[.bool nr313, .slice A314 n315 c316]]) (T rfl rfl) rfl) ?_
     refine lw_v (.agg #[.bool nr313, .slice A314 n315 c316]) (dv_extract (vs := #[.agg #[.bool nr309, .slice A310 n311 c312], .agg #[.bool nr313, .slice A314 n315 c316]]) (T rfl rfl) rfl) ?_
     have H322 := (e320.blk H306)
     refine lw_e (oe_store (v := .agg #[.bool nr309, .slice A310 n311 c312]) (vs := [.bool nr309, .slice A310 n311 c312]) (l := [.bool nr309, .slice A310 n311 c312]) (T rfl rfl) (T rfl rfl) sz100 rfl rfl rfl H322 rfl ?_)
     intro w323 s324 H325
     have E326 := below_st E321 N4 s324
     refine lw_nil ?_
     refine rk_reg ?_
     have H327 := (s324.blk (e320.blk (e302.blk (e297.blk (d288.ext.blk (s284.blk (n279.ext.blk (e275.blk H16)) (by omega)))))) (by omega))
     refine lw_v (.agg #[.bool nb, .slice Ab lb cb]) (dv_loads (l := [.bool nb, .slice Ab lb cb]) agt100 sz100 (T rfl rfl) H327 rfl) ?_
     have H328 := (s324.blk (e320.blk H304) (by omega))
     refine lw_v (.agg #[.bool nr269, .slice A270 n271 c272]) (dv_loads (l := [.bool nr269, .slice A270 n271 c272]) agt100 sz100 (T rfl rfl) H328 rfl) ?_
     have h329 := hb.ext E326
     have h330 := ((h308.ext e320).st s324 H322 (by decide))
     refine lw_e (oe_callf (vs := [.agg #[.bool nb, .slice Ab lb cb], .agg #[.bool nr269, .slice A270 n271 c272]]) co152 (ar2 (T rfl rfl) (T rfl rfl)) (l1Div_ok h329 h330 (Int.ne_of_gt (gI_pos hy)) (by first | decide | omega) (by first | decide | omega)) ?_)
     rintro _ w341 ⟨nr331, A332, n333, c334, nr335, A336, n337, c338, rfl, e342, h339, h340⟩
     have E343 := below_ext E326 E326.size e342
     have lh339 := Num.len (by decide) h339
     have lh340 := Num.len (by decide) h340
     refine lw_v (.tuple #[.agg #[.bool nr331, .slice A332 n333 c334], .agg #[.bool nr335, .slice A336 n337 c338]]) (dv_move (T rfl rfl)) ?_
     refine lw_v (.agg #[.bool nr331, .slice A332 n333 c334]) (dv_extract (vs := #[.agg #[.bool nr331, .slice A332 n333 c334], .agg #[.bool nr335, .slice A336 n337 c338]]) (T rfl rfl) rfl) ?_
     refine lw_v (.agg #[.bool nr335, .slice A336 n337 c338]) (dv_extract (vs := #[.agg #[.bool nr331, .slice A332 n333 c334], .agg #[.bool nr335, .slice A336 n337 c338]]) (T rfl rfl) rfl) ?_
     have H344 := (e342.blk H327)
     refine lw_e (oe_store (v := .agg #[.bool nr331, .slice A332 n333 c334]) (vs := [.bool nr331, .slice A332 n333 c334]) (l := [.bool nr331, .slice A332 n333 c334]) (T rfl rfl) (T rfl rfl) sz100 rfl rfl rfl H344 rfl ?_)
     intro w345 s346 H347
     have E348 := below_st E343 N9 s346
     refine lw_nil ?_
     refine rk_seq ?_
     refine rk_reg ?_
     have H349 := (s346.blk (e342.blk H325) (by omega))
     refine lw_v (.agg #[.bool nr309, .slice A310 n311 c312]) (dv_loads (l := [.bool nr309, .slice A310 n311 c312]) agt100 sz100 (T rfl rfl) H349 rfl) ?_
     refine lw_v (.agg #[.bool nr331, .slice A332 n333 c334]) (dv_loads (l := [.bool nr331, .slice A332 n333 c334]) agt100 sz100 (T rfl rfl) H347 rfl) ?_
     refine lw_v (.agg #[.bool nr309, .slice A310 n311 c312, .bool nr331, .slice A332 n333 c334]) (dv_build (pv := [(0, .agg #[.bool nr309, .slice A310 n311 c312]), (1, .agg #[.bool nr331, .slice A332 n333 c334])]) (l := [.bool nr309, .slice A310 n311 c312, .bool nr331, .slice A332 n333 c334]) zc136 pl136 ⟨rfl, (T rfl rfl), ⟨rfl, (T rfl rfl), trivial⟩⟩ rfl) ?_
     have H350 := (s346.blk (e342.blk (s324.blk (e320.blk (e302.blk (e297.blk (d288.ext.blk (s284.blk (n279.ext.blk H281) (by omega)))))) (by omega))) (by omega))
     refine lw_e (oe_store (v := .agg #[.bool nr309, .slice A310 n311 c312, .bool nr331, .slice A332 n333 c334]) (vs := [.bool nr309, .slice A310 n311 c312, .bool nr331, .slice A332 n333 c334]) (l := [.bool nr309, .slice A310 n311 c312, .bool nr331, .slice A332 n333 c334]) (T rfl rfl) (T rfl rfl) sz136 rfl rfl rfl H350 rfl ?_)
     intro w351 s352 H353
     have E354 := below_st E348 N14 s352
     refine lw_nil ?_
     refine rk_ret Try.func106 (v := .agg #[.bool nr309, .slice A310 n311 c312, .bool nr331, .slice A332 n333 c334]) (res1 Try.results106 (rv_cells (l := [.bool nr309, .slice A310 n311 c312, .bool nr331, .slice A332 n333 c334]) agt136 sz136 rfl rfl H353 rfl)) ⟨_, rfl, ?_⟩
     have h355 := ((((h317.st s324 H322 (by decide)).ext e342).st s346 H344 (by decide)).st s352 H350 (by decide))
     have h356 := ((h339.st s346 H344 (by decide)).st s352 H350 (by decide))
     exact ⟨_, _, _, _, _, _, _, _, rfl, E354, h355.to ((by unfold rUp; rw [if_neg (fun hh => by have := hb.neg_iff.2 hh; simp_all)])) (Nat.le_refl _), h356.to ((by unfold rDn; rw [if_neg (fun hh => by have := hb.neg_iff.2 hh; simp_all)])) (Nat.le_refl _)⟩
   · refine rk_cf (T rfl (congrArg Value.bool (decide_eq_false hb305))) ?_
     refine rk_skip ?_
     refine rk_seq ?_
     refine rk_reg ?_
     have H357 := (e302.blk (e297.blk (d288.ext.blk (s284.blk (n279.ext.blk (e275.blk H266)) (by omega)))))
     refine lw_v (.agg #[.bool na, .slice Aa la ca]) (dv_loads (l := [.bool na, .slice Aa la ca]) agt100 sz100 (T rfl rfl) H357 rfl) ?_
     have H358 := (e302.blk (e297.blk (d288.ext.blk (s284.blk (n279.ext.blk (e275.blk H16)) (by omega)))))
     refine lw_v (.agg #[.bool nb, .slice Ab lb cb]) (dv_loads (l := [.bool nb, .slice Ab lb cb]) agt100 sz100 (T rfl rfl) H358 rfl) ?_
     refine lw_v (.agg #[.bool na, .slice Aa la ca, .bool nb, .slice Ab lb cb]) (dv_build (pv := [(0, .agg #[.bool na, .slice Aa la ca]), (1, .agg #[.bool nb, .slice Ab lb cb])]) (l := [.bool na, .slice Aa la ca, .bool nb, .slice Ab lb cb]) zc136 pl136 ⟨rfl, (T rfl rfl), ⟨rfl, (T rfl rfl), trivial⟩⟩ rfl) ?_
     have H359 := (e302.blk (e297.blk (d288.ext.blk (s284.blk (n279.ext.blk H281) (by omega)))))
     refine lw_e (oe_store (v := .agg #[.bool na, .slice Aa la ca, .bool nb, .slice Ab lb cb]) (vs := [.bool na, .slice Aa la ca, .bool nb, .slice Ab lb cb]) (l := [.bool na, .slice Aa la ca, .bool nb, .slice Ab lb cb]) (T rfl rfl) (T rfl rfl) sz136 rfl rfl rfl H359 rfl ?_)
     intro w360 s361 H362
     have E363 := below_st E303 N14 s361
     refine lw_nil ?_
     refine rk_ret Try.func106 (v := .agg #[.bool na, .slice Aa la ca, .bool nb, .slice Ab lb cb]) (res1 Try.results106 (rv_cells (l := [.bool na, .slice Aa la ca, .bool nb, .slice Ab lb cb]) agt136 sz136 rfl rfl H362 rfl)) ⟨_, rfl, ?_⟩
     have h364 := ha.ext E363
     have h365 := hb.ext E363
     exact ⟨_, _, _, _, _, _, _, _, rfl, E363, h364.to ((by unfold rUp; rw [if_neg (fun hh => by have := hb.neg_iff.2 hh; simp_all), show gI x y = 1 by have := @sgnI_zero (gI x y - 1); omega, Int.ediv_one])) (Nat.le_refl _), h365.to ((by unfold rDn; rw [if_neg (fun hh => by have := hb.neg_iff.2 hh; simp_all), show gI x y = 1 by have := @sgnI_zero (gI x y - 1); omega, Int.ediv_one])) (Nat.le_refl _)⟩
set_option maxHeartbeats 1000000 in
theorem l2Ratio_ok {w : World}  {na : Bool} {Aa : Option Addr} {la ca : Nat} {x : Int} {sx : Nat} (ha : Num 32 183 .u32 w na Aa la ca x sx) {nb : Bool} {Ab : Option Addr} {lb cb : Nat} {y : Int} {sy : Nat} (hb : Num 32 183 .u32 w nb Ab lb cb y sy) (hbsx : sx ≤ 100000) (hbsy : sy ≤ 100000)  : Ct Try.prog 105 [.agg #[.bool na, .slice Aa la ca, .bool nb, .slice Ab lb cb]] w fun v w1 => v = .tuple #[.agg #[.int .u64 (wv3 (pkz (fits x ∧ fits y) x)), .int .u64 (wv2 (pkz (fits x ∧ fits y) x)), .int .u64 (wv1 (pkz (fits x ∧ fits y) x)), .int .u64 (wv0 (pkz (fits x ∧ fits y) x)), .int .u64 (wv3 (pkz (fits x ∧ fits y) y)), .int .u64 (wv2 (pkz (fits x ∧ fits y) y)), .int .u64 (wv1 (pkz (fits x ∧ fits y) y)), .int .u64 (wv0 (pkz (fits x ∧ fits y) y))], .bool (decide (fits x ∧ fits y))] ∧ Ext w w1 := by
 refine ct_run (n := 30) Try.func105 rfl Try.ntmps105 rfl ?_
 have E0 : Below w.heap.size w w := Below.refl _ _
 have lha := Num.len (by decide) ha
 have lhb := Num.len (by decide) hb
 refine rk_seq ?_
 refine rk_reg ?_
 refine lw_e (oe_box (v := .agg #[.bool na, .slice Aa la ca, .bool nb, .slice Ab lb cb]) (cs := #[.bool na, .slice Aa la ca, .bool nb, .slice Ab lb cb]) (T rfl rfl) rfl ?_)
 intro b1 w2 n3
 have N4 : w.heap.size ≤ b1 := n3.eq ▸ E0.size
 have E5 := below_ext E0 E0.size n3.ext
 refine lw_e (oe_alloc ze68 ?_)
 intro b6 w7 n8
 have N9 : w.heap.size ≤ b6 := n8.eq ▸ E5.size
 have : b1 < b6 := n8.eq ▸ lt_of_blk n3.blk
 have E10 := below_ext E5 E5.size n8.ext
 refine lw_v (.bool false) (dv_assign C) ?_
 refine lw_nil ?_
 refine rk_seq ?_
 refine rk_reg ?_
 refine lw_v (.pointer (some ⟨b1, 0, none⟩)) (dv_fieldAddr (a := ⟨b1, 0, none⟩) (a' := ⟨b1, 0, none⟩) fo136_0 (T rfl rfl) rfl) ?_
 have H11 := (n8.ext.blk n3.blk)
 refine lw_v (.agg #[.bool na, .slice Aa la ca]) (dv_loads (l := [.bool na, .slice Aa la ca]) agt100 sz100 (T rfl rfl) H11 rfl) ?_
 have h12 := ((ha.ext n3.ext).ext n8.ext)
 refine lw_e (oe_callf (vs := [.agg #[.bool na, .slice Aa la ca]]) co150 (ar1 (T rfl rfl)) (l1Wide_ok h12 (by first | decide | omega)) ?_)
 rintro _ w14 ⟨rfl, e15⟩
 have E16 := below_ext E10 E10.size e15
 have bw13 := w_rg (x)
 refine lw_v (.tuple #[.agg #[.int .u64 (wv3 x), .int .u64 (wv2 x), .int .u64 (wv1 x), .int .u64 (wv0 x)], .bool (decide (fits x))]) (dv_move (T rfl rfl)) ?_
 refine lw_v (.agg #[.int .u64 (wv3 x), .int .u64 (wv2 x), .int .u64 (wv1 x), .int .u64 (wv0 x)]) (dv_extract (vs := #[.agg #[.int .u64 (wv3 x), .int .u64 (wv2 x), .int .u64 (wv1 x), .int .u64 (wv0 x)], .bool (decide (fits x))]) (T rfl rfl) rfl) ?_
 refine lw_v (.bool (decide (fits x))) (dv_extract (vs := #[.agg #[.int .u64 (wv3 x), .int .u64 (wv2 x), .int .u64 (wv1 x), .int .u64 (wv0 x)], .bool (decide (fits x))]) (T rfl rfl) rfl) ?_
 refine lw_e (oe_alloc ze35 ?_)
 intro b17 w18 n19
 have N20 : w.heap.size ≤ b17 := n19.eq ▸ E16.size
 have H21 := (e15.blk n8.blk)
 have : b6 < b17 := n19.eq ▸ lt_of_blk H21
 have E22 := below_ext E16 E16.size n19.ext
 refine lw_e (oe_store (v := .agg #[.int .u64 (wv3 x), .int .u64 (wv2 x), .int .u64 (wv1 x), .int .u64 (wv0 x)]) (vs := [.int .u64 (wv3 x), .int .u64 (wv2 x), .int .u64 (wv1 x), .int .u64 (wv0 x)]) (l := [.int .u64 (wv3 x), .int .u64 (wv2 x), .int .u64 (wv1 x), .int .u64 (wv0 x)]) (T rfl rfl) (T rfl rfl) sz35 rfl rfl rfl n19.blk rfl ?_)
 intro w23 s24 H25
 have E26 := below_st E22 N20 s24
 refine lw_v (.bool (decide (fits x))) (dv_assign (T rfl rfl)) ?_
 refine lw_nil ?_
 refine rk_seq ?_
 refine rk_reg ?_
 refine lw_v (.pointer (some ⟨b1, 2, none⟩)) (dv_fieldAddr (a := ⟨b1, 0, none⟩) (a' := ⟨b1, 2, none⟩) fo136_1 (T rfl rfl) rfl) ?_
 have H27 := (s24.blk (n19.ext.blk (e15.blk H11)) (by omega))
 refine lw_v (.agg #[.bool nb, .slice Ab lb cb]) (dv_loads (l := [.bool nb, .slice Ab lb cb]) agt100 sz100 (T rfl rfl) H27 rfl) ?_
 have h28 := hb.ext E26
 refine lw_e (oe_callf (vs := [.agg #[.bool nb, .slice Ab lb cb]]) co150 (ar1 (T rfl rfl)) (l1Wide_ok h28 (by first | decide | omega)) ?_)
 rintro _ w30 ⟨rfl, e31⟩
 have E32 := below_ext E26 E26.size e31
 have bw29 := w_rg (y)
 refine lw_v (.tuple #[.agg #[.int .u64 (wv3 y), .int .u64 (wv2 y), .int .u64 (wv1 y), .int .u64 (wv0 y)], .bool (decide (fits y))]) (dv_move (T rfl rfl)) ?_
 refine lw_v (.agg #[.int .u64 (wv3 y), .int .u64 (wv2 y), .int .u64 (wv1 y), .int .u64 (wv0 y)]) (dv_extract (vs := #[.agg #[.int .u64 (wv3 y), .int .u64 (wv2 y), .int .u64 (wv1 y), .int .u64 (wv0 y)], .bool (decide (fits y))]) (T rfl rfl) rfl) ?_
 refine lw_v (.bool (decide (fits y))) (dv_extract (vs := #[.agg #[.int .u64 (wv3 y), .int .u64 (wv2 y), .int .u64 (wv1 y), .int .u64 (wv0 y)], .bool (decide (fits y))]) (T rfl rfl) rfl) ?_
 refine lw_e (oe_alloc ze35 ?_)
 intro b33 w34 n35
 have N36 : w.heap.size ≤ b33 := n35.eq ▸ E32.size
 have H37 := (e31.blk H25)
 have : b17 < b33 := n35.eq ▸ lt_of_blk H37
 have E38 := below_ext E32 E32.size n35.ext
 refine lw_e (oe_store (v := .agg #[.int .u64 (wv3 y), .int .u64 (wv2 y), .int .u64 (wv1 y), .int .u64 (wv0 y)]) (vs := [.int .u64 (wv3 y), .int .u64 (wv2 y), .int .u64 (wv1 y), .int .u64 (wv0 y)]) (l := [.int .u64 (wv3 y), .int .u64 (wv2 y), .int .u64 (wv1 y), .int .u64 (wv0 y)]) (T rfl rfl) (T rfl rfl) sz35 rfl rfl rfl n35.blk rfl ?_)
 intro w39 s40 H41
 have E42 := below_st E38 N36 s40
 refine lw_v (.bool (decide (fits y))) (dv_assign (T rfl rfl)) ?_
 refine lw_nil ?_
 refine rk_seq ?_
 refine rk_seq ?_
 refine rk_reg ?_
 refine lw_v (.bool (decide (fits x))) (dv_move (T rfl rfl)) ?_
 refine lw_v (.bool (decide (¬ (fits x)))) (dv_notd (p := fits x) (T rfl rfl)) ?_
 refine lw_v (.bool (decide (¬ (fits x)))) (dv_move (T rfl rfl)) ?_
 by_cases hb43 : fits x
 · refine lw_vy (.bool (decide (fits y))) (d := 22) rfl rfl (congrArg Value.bool (decide_eq_false (not_not_intro hb43))) (dv_move (T rfl rfl)) ?_
   refine lw_vy (.bool (decide (¬ (fits y)))) (d := 22) rfl rfl (congrArg Value.bool (decide_eq_false (not_not_intro hb43))) (dv_notd (p := fits y) (T rfl rfl)) ?_
   refine lw_v (.bool (decide (¬ (fits y)))) (dv_pick_f (T rfl (congrArg Value.bool (decide_eq_false (not_not_intro hb43)))) (T rfl rfl)) ?_
   refine lw_nil ?_
   by_cases hb44 : fits y
   · refine rk_cf (T rfl (congrArg Value.bool (decide_eq_false (not_not_intro hb44)))) ?_
     refine rk_skip ?_
     refine rk_seq ?_
     refine rk_reg ?_
     have H45 := (s40.blk (n35.ext.blk H37) (by omega))
     refine lw_v (.agg #[.int .u64 (wv3 x), .int .u64 (wv2 x), .int .u64 (wv1 x), .int .u64 (wv0 x)]) (dv_loads (l := [.int .u64 (wv3 x), .int .u64 (wv2 x), .int .u64 (wv1 x), .int .u64 (wv0 x)]) agt35 sz35 (T rfl rfl) H45 rfl) ?_
     refine lw_v (.agg #[.int .u64 (wv3 y), .int .u64 (wv2 y), .int .u64 (wv1 y), .int .u64 (wv0 y)]) (dv_loads (l := [.int .u64 (wv3 y), .int .u64 (wv2 y), .int .u64 (wv1 y), .int .u64 (wv0 y)]) agt35 sz35 (T rfl rfl) H41 rfl) ?_
     refine lw_v (.agg #[.int .u64 (wv3 x), .int .u64 (wv2 x), .int .u64 (wv1 x), .int .u64 (wv0 x), .int .u64 (wv3 y), .int .u64 (wv2 y), .int .u64 (wv1 y), .int .u64 (wv0 y)]) (dv_build (pv := [(0, .agg #[.int .u64 (wv3 x), .int .u64 (wv2 x), .int .u64 (wv1 x), .int .u64 (wv0 x)]), (1, .agg #[.int .u64 (wv3 y), .int .u64 (wv2 y), .int .u64 (wv1 y), .int .u64 (wv0 y)])]) (l := [.int .u64 (wv3 x), .int .u64 (wv2 x), .int .u64 (wv1 x), .int .u64 (wv0 x), .int .u64 (wv3 y), .int .u64 (wv2 y), .int .u64 (wv1 y), .int .u64 (wv0 y)]) zc68 pl68 ⟨rfl, (T rfl rfl), ⟨rfl, (T rfl rfl), trivial⟩⟩ rfl) ?_
     have H46 := (s40.blk (n35.ext.blk (e31.blk (s24.blk (n19.ext.blk H21) (by omega)))) (by omega))
     refine lw_e (oe_store (v := .agg #[.int .u64 (wv3 x), .int .u64 (wv2 x), .int .u64 (wv1 x), .int .u64 (wv0 x), .int .u64 (wv3 y), .int .u64 (wv2 y), .int .u64 (wv1 y), .int .u64 (wv0 y)]) (vs := [.int .u64 (wv3 x), .int .u64 (wv2 x), .int .u64 (wv1 x), .int .u64 (wv0 x), .int .u64 (wv3 y), .int .u64 (wv2 y), .int .u64 (wv1 y), .int .u64 (wv0 y)]) (l := [.int .u64 (wv3 x), .int .u64 (wv2 x), .int .u64 (wv1 x), .int .u64 (wv0 x), .int .u64 (wv3 y), .int .u64 (wv2 y), .int .u64 (wv1 y), .int .u64 (wv0 y)]) (T rfl rfl) (T rfl rfl) sz68 rfl rfl rfl H46 rfl ?_)
     intro w47 s48 H49
     have E50 := below_st E42 N9 s48
     refine lw_v (.bool true) (dv_assign C) ?_
     refine lw_nil ?_
     refine rk_ret Try.func105 (v := .tuple #[.agg #[.int .u64 (wv3 x), .int .u64 (wv2 x), .int .u64 (wv1 x), .int .u64 (wv0 x), .int .u64 (wv3 y), .int .u64 (wv2 y), .int .u64 (wv1 y), .int .u64 (wv0 y)], .bool true]) (res2 Try.results105 (rv_cells (l := [.int .u64 (wv3 x), .int .u64 (wv2 x), .int .u64 (wv1 x), .int .u64 (wv0 x), .int .u64 (wv3 y), .int .u64 (wv2 y), .int .u64 (wv1 y), .int .u64 (wv0 y)]) agt68 sz68 rfl rfl H49 rfl) (rv_tmp rfl rfl)) ⟨_, rfl, ?_⟩
     have hS : fits x ∧ fits y := by exact ⟨by first | assumption | simpa using ‹_›, by first | assumption | simpa using ‹_›⟩
     exact ⟨(tu2 (ag8 (vi (by rw [pkz_t hS])) (vi (by rw [pkz_t hS])) (vi (by rw [pkz_t hS])) (vi (by rw [pkz_t hS])) (vi (by rw [pkz_t hS])) (vi (by rw [pkz_t hS])) (vi (by rw [pkz_t hS])) (vi (by rw [pkz_t hS]))) (vt hS)), E50⟩
   · refine rk_ct (T rfl (congrArg Value.bool (decide_eq_true hb44))) ?_
     refine rk_seq ?_
     refine rk_reg ?_
     refine lw_v (.agg #[.int .u64 0, .int .u64 0, .int .u64 0, .int .u64 0, .int .u64 0, .int .u64 0, .int .u64 0, .int .u64 0]) (dv_build (pv := []) (l := [.int .u64 0, .int .u64 0, .int .u64 0, .int .u64 0, .int .u64 0, .int .u64 0, .int .u64 0, .int .u64 0]) zc68 pl68 trivial rfl) ?_
     have H51 := (s40.blk (n35.ext.blk (e31.blk (s24.blk (n19.ext.blk H21) (by omega)))) (by omega))
     refine lw_e (oe_store (v := .agg #[.int .u64 0, .int .u64 0, .int .u64 0, .int .u64 0, .int .u64 0, .int .u64 0, .int .u64 0, .int .u64 0]) (vs := [.int .u64 0, .int .u64 0, .int .u64 0, .int .u64 0, .int .u64 0, .int .u64 0, .int .u64 0, .int .u64 0]) (l := [.int .u64 0, .int .u64 0, .int .u64 0, .int .u64 0, .int .u64 0, .int .u64 0, .int .u64 0, .int .u64 0]) (T rfl rfl) (T rfl rfl) sz68 rfl rfl rfl H51 rfl ?_)
     intro w52 s53 H54
     have E55 := below_st E42 N9 s53
     refine lw_v (.bool false) (dv_assign C) ?_
     refine lw_nil ?_
     refine rk_ret Try.func105 (v := .tuple #[.agg #[.int .u64 0, .int .u64 0, .int .u64 0, .int .u64 0, .int .u64 0, .int .u64 0, .int .u64 0, .int .u64 0], .bool false]) (res2 Try.results105 (rv_cells (l := [.int .u64 0, .int .u64 0, .int .u64 0, .int .u64 0, .int .u64 0, .int .u64 0, .int .u64 0, .int .u64 0]) agt68 sz68 rfl rfl H54 rfl) (rv_tmp rfl rfl)) ⟨_, rfl, ?_⟩
     have hS : ¬ (fits x ∧ fits y) := by intro hd; have h2 := hd.1; have h3 := hd.2; first | contradiction | simp_all
     exact ⟨(tu2 (ag8 (vi (wf3 hS)) (vi (wf2 hS)) (vi (wf1 hS)) (vi (wf0 hS)) (vi (wf3 hS)) (vi (wf2 hS)) (vi (wf1 hS)) (vi (wf0 hS))) (vf hS)), E55⟩
 · refine lw_no (d := 22) rfl rfl (congrArg Value.bool (decide_eq_true hb43)) ?_
   refine lw_no (d := 22) rfl rfl (congrArg Value.bool (decide_eq_true hb43)) ?_
   refine lw_v (.bool true) (dv_pick_t (T rfl (congrArg Value.bool (decide_eq_true hb43))) C) ?_
   refine lw_nil ?_
   refine rk_ct (T rfl rfl) ?_
   refine rk_seq ?_
   refine rk_reg ?_
   refine lw_v (.agg #[.int .u64 0, .int .u64 0, .int .u64 0, .int .u64 0, .int .u64 0, .int .u64 0, .int .u64 0, .int .u64 0]) (dv_build (pv := []) (l := [.int .u64 0, .int .u64 0, .int .u64 0, .int .u64 0, .int .u64 0, .int .u64 0, .int .u64 0, .int .u64 0]) zc68 pl68 trivial rfl) ?_
   have H56 := (s40.blk (n35.ext.blk (e31.blk (s24.blk (n19.ext.blk H21) (by omega)))) (by omega))
   refine lw_e (oe_store (v := .agg #[.int .u64 0, .int .u64 0, .int .u64 0, .int .u64 0, .int .u64 0, .int .u64 0, .int .u64 0, .int .u64 0]) (vs := [.int .u64 0, .int .u64 0, .int .u64 0, .int .u64 0, .int .u64 0, .int .u64 0, .int .u64 0, .int .u64 0]) (l := [.int .u64 0, .int .u64 0, .int .u64 0, .int .u64 0, .int .u64 0, .int .u64 0, .int .u64 0, .int .u64 0]) (T rfl rfl) (T rfl rfl) sz68 rfl rfl rfl H56 rfl ?_)
   intro w57 s58 H59
   have E60 := below_st E42 N9 s58
   refine lw_v (.bool false) (dv_assign C) ?_
   refine lw_nil ?_
   refine rk_ret Try.func105 (v := .tuple #[.agg #[.int .u64 0, .int .u64 0, .int .u64 0, .int .u64 0, .int .u64 0, .int .u64 0, .int .u64 0, .int .u64 0], .bool false]) (res2 Try.results105 (rv_cells (l := [.int .u64 0, .int .u64 0, .int .u64 0, .int .u64 0, .int .u64 0, .int .u64 0, .int .u64 0, .int .u64 0]) agt68 sz68 rfl rfl H59 rfl) (rv_tmp rfl rfl)) ⟨_, rfl, ?_⟩
   have hS : ¬ (fits x ∧ fits y) := by intro hd; have h2 := hd.1; have h3 := hd.2; first | contradiction | simp_all
   exact ⟨(tu2 (ag8 (vi (wf3 hS)) (vi (wf2 hS)) (vi (wf1 hS)) (vi (wf0 hS)) (vi (wf3 hS)) (vi (wf2 hS)) (vi (wf1 hS)) (vi (wf0 hS))) (vf hS)), E60⟩
set_option maxHeartbeats 1000000 in
theorem eqRatio_ok {w : World} {x y p q : Int} (fx_ : fits x) (fy_ : fits y) (fp_ : fits p) (fq_ : fits q)  : Ct Try.prog 43 [.agg #[.int .u64 (wv3 x), .int .u64 (wv2 x), .int .u64 (wv1 x), .int .u64 (wv0 x), .int .u64 (wv3 y), .int .u64 (wv2 y), .int .u64 (wv1 y), .int .u64 (wv0 y)], .agg #[.int .u64 (wv3 p), .int .u64 (wv2 p), .int .u64 (wv1 p), .int .u64 (wv0 p), .int .u64 (wv3 q), .int .u64 (wv2 q), .int .u64 (wv1 q), .int .u64 (wv0 q)]] w fun v w1 => v = .bool (decide (x = p ∧ y = q)) ∧ Ext w w1 := by
 refine ct_run (n := 17) Try.func43 rfl Try.ntmps43 rfl ?_
 have E0 : Below w.heap.size w w := Below.refl _ _
 refine rk_seq ?_
 refine rk_reg ?_
 refine lw_e (oe_box (v := .agg #[.int .u64 (wv3 x), .int .u64 (wv2 x), .int .u64 (wv1 x), .int .u64 (wv0 x), .int .u64 (wv3 y), .int .u64 (wv2 y), .int .u64 (wv1 y), .int .u64 (wv0 y)]) (cs := #[.int .u64 (wv3 x), .int .u64 (wv2 x), .int .u64 (wv1 x), .int .u64 (wv0 x), .int .u64 (wv3 y), .int .u64 (wv2 y), .int .u64 (wv1 y), .int .u64 (wv0 y)]) (T rfl rfl) rfl ?_)
 intro b1 w2 n3
 have N4 : w.heap.size ≤ b1 := n3.eq ▸ E0.size
 have E5 := below_ext E0 E0.size n3.ext
 refine lw_e (oe_box (v := .agg #[.int .u64 (wv3 p), .int .u64 (wv2 p), .int .u64 (wv1 p), .int .u64 (wv0 p), .int .u64 (wv3 q), .int .u64 (wv2 q), .int .u64 (wv1 q), .int .u64 (wv0 q)]) (cs := #[.int .u64 (wv3 p), .int .u64 (wv2 p), .int .u64 (wv1 p), .int .u64 (wv0 p), .int .u64 (wv3 q), .int .u64 (wv2 q), .int .u64 (wv1 q), .int .u64 (wv0 q)]) (T rfl rfl) rfl ?_)
 intro b6 w7 n8
 have N9 : w.heap.size ≤ b6 := n8.eq ▸ E5.size
 have : b1 < b6 := n8.eq ▸ lt_of_blk n3.blk
 have E10 := below_ext E5 E5.size n8.ext
 refine lw_v (.bool false) (dv_assign C) ?_
 refine lw_nil ?_
 refine rk_seq ?_
 refine rk_seq ?_
 refine rk_reg ?_
 refine lw_v (.pointer (some ⟨b1, 0, none⟩)) (dv_fieldAddr (a := ⟨b1, 0, none⟩) (a' := ⟨b1, 0, none⟩) fo68_0 (T rfl rfl) rfl) ?_
 have H11 := (n8.ext.blk n3.blk)
 refine lw_v (.agg #[.int .u64 (wv3 x), .int .u64 (wv2 x), .int .u64 (wv1 x), .int .u64 (wv0 x)]) (dv_loads (l := [.int .u64 (wv3 x), .int .u64 (wv2 x), .int .u64 (wv1 x), .int .u64 (wv0 x)]) agt35 sz35 (T rfl rfl) H11 rfl) ?_
 refine lw_v (.pointer (some ⟨b6, 0, none⟩)) (dv_fieldAddr (a := ⟨b6, 0, none⟩) (a' := ⟨b6, 0, none⟩) fo68_0 (T rfl rfl) rfl) ?_
 refine lw_v (.agg #[.int .u64 (wv3 p), .int .u64 (wv2 p), .int .u64 (wv1 p), .int .u64 (wv0 p)]) (dv_loads (l := [.int .u64 (wv3 p), .int .u64 (wv2 p), .int .u64 (wv1 p), .int .u64 (wv0 p)]) agt35 sz35 (T rfl rfl) n8.blk rfl) ?_
 refine lw_e (oe_callf (vs := [.agg #[.int .u64 (wv3 x), .int .u64 (wv2 x), .int .u64 (wv1 x), .int .u64 (wv0 x)], .agg #[.int .u64 (wv3 p), .int .u64 (wv2 p), .int .u64 (wv1 p), .int .u64 (wv0 p)]]) co103 (ar2 (T rfl rfl) (T rfl rfl)) (eqWide_ok (x := x) (y := p) fx_ fp_ ) ?_)
 rintro _ w12 ⟨rfl, e13⟩
 have E14 := below_ext E10 E10.size e13
 refine lw_v (.bool (decide (¬ (x = p)))) (dv_notd (p := x = p) (T rfl rfl)) ?_
 refine lw_nil ?_
 by_cases hb15 : x = p
 · refine rk_cf (T rfl (congrArg Value.bool (decide_eq_false (not_not_intro hb15)))) ?_
   refine rk_skip ?_
   refine rk_seq ?_
   refine rk_seq ?_
   refine rk_reg ?_
   refine lw_v (.pointer (some ⟨b1, 4, none⟩)) (dv_fieldAddr (a := ⟨b1, 0, none⟩) (a' := ⟨b1, 4, none⟩) fo68_1 (T rfl rfl) rfl) ?_
   have H16 := (e13.blk H11)
   refine lw_v (.agg #[.int .u64 (wv3 y), .int .u64 (wv2 y), .int .u64 (wv1 y), .int .u64 (wv0 y)]) (dv_loads (l := [.int .u64 (wv3 y), .int .u64 (wv2 y), .int .u64 (wv1 y), .int .u64 (wv0 y)]) agt35 sz35 (T rfl rfl) H16 rfl) ?_
   refine lw_v (.pointer (some ⟨b6, 4, none⟩)) (dv_fieldAddr (a := ⟨b6, 0, none⟩) (a' := ⟨b6, 4, none⟩) fo68_1 (T rfl rfl) rfl) ?_
   have H17 := (e13.blk n8.blk)
   refine lw_v (.agg #[.int .u64 (wv3 q), .int .u64 (wv2 q), .int .u64 (wv1 q), .int .u64 (wv0 q)]) (dv_loads (l := [.int .u64 (wv3 q), .int .u64 (wv2 q), .int .u64 (wv1 q), .int .u64 (wv0 q)]) agt35 sz35 (T rfl rfl) H17 rfl) ?_
   refine lw_e (oe_callf (vs := [.agg #[.int .u64 (wv3 y), .int .u64 (wv2 y), .int .u64 (wv1 y), .int .u64 (wv0 y)], .agg #[.int .u64 (wv3 q), .int .u64 (wv2 q), .int .u64 (wv1 q), .int .u64 (wv0 q)]]) co103 (ar2 (T rfl rfl) (T rfl rfl)) (eqWide_ok (x := y) (y := q) fy_ fq_ ) ?_)
   rintro _ w18 ⟨rfl, e19⟩
   have E20 := below_ext E14 E14.size e19
   refine lw_v (.bool (decide (¬ (y = q)))) (dv_notd (p := y = q) (T rfl rfl)) ?_
   refine lw_nil ?_
   by_cases hb21 : y = q
   · refine rk_cf (T rfl (congrArg Value.bool (decide_eq_false (not_not_intro hb21)))) ?_
     refine rk_skip ?_
     refine rk_seq ?_
     refine rk_reg ?_
     refine lw_v (.bool true) (dv_assign C) ?_
     refine lw_nil ?_
     refine rk_ret Try.func43 (v := .bool true) (res1 Try.results43 (rv_tmp rfl rfl)) ⟨_, rfl, ?_⟩
     exact ⟨(vt (by omega)), E20⟩
   · refine rk_ct (T rfl (congrArg Value.bool (decide_eq_true hb21))) ?_
     refine rk_seq ?_
     refine rk_reg ?_
     refine lw_v (.bool false) (dv_assign C) ?_
     refine lw_nil ?_
     refine rk_ret Try.func43 (v := .bool false) (res1 Try.results43 (rv_tmp rfl rfl)) ⟨_, rfl, ?_⟩
     exact ⟨(vf (by omega)), E20⟩
 · refine rk_ct (T rfl (congrArg Value.bool (decide_eq_true hb15))) ?_
   refine rk_seq ?_
   refine rk_reg ?_
   refine lw_v (.bool false) (dv_assign C) ?_
   refine lw_nil ?_
   refine rk_ret Try.func43 (v := .bool false) (res1 Try.results43 (rv_tmp rfl rfl)) ⟨_, rfl, ?_⟩
   exact ⟨(vf (by omega)), E14⟩
end Go.Proofs.Ytdanhdbanfpghaa.W
