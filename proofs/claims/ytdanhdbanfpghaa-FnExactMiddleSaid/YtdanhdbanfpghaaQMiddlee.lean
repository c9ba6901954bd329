/- Walks and plain mathematics, packed by a program of this session: declarations that the rows reach. -/
import Derived.Test.YtdanhdbanfpghaaQMiddled
set_option linter.unusedVariables false
set_option linter.unusedSimpArgs false
namespace Go.Proofs.Ytdanhdbanfpghaa.W
open Go Go.RowKit Go.Proofs.Ytdanhdbanfpghaa.Fw
attribute [local irreducible] RunK LW AW DV OE Ct
theorem agt102 : aggB Try.prog 102 = some true := by kernel_rfl
theorem agt122 : aggB Try.prog 122 = some true := by kernel_rfl
theorem agt31 : aggB Try.prog 31 = some true := by kernel_rfl
theorem agt37 : aggB Try.prog 37 = some true := by kernel_rfl
theorem co127 : callOk Try.prog 127 = true := by kernel_rfl
theorem co128 : callOk Try.prog 128 = true := by kernel_rfl
theorem co129 : callOk Try.prog 129 = true := by kernel_rfl
theorem co130 : callOk Try.prog 130 = true := by kernel_rfl
theorem co134 : callOk Try.prog 134 = true := by kernel_rfl
theorem co146 : callOk Try.prog 146 = true := by kernel_rfl
theorem co69 : callOk Try.prog 69 = true := by kernel_rfl
theorem co70 : callOk Try.prog 70 = true := by kernel_rfl
theorem co75 : callOk Try.prog 75 = true := by kernel_rfl
theorem co90 : callOk Try.prog 90 = true := by kernel_rfl
theorem co91 : callOk Try.prog 91 = true := by kernel_rfl
theorem co93 : callOk Try.prog 93 = true := by kernel_rfl
theorem co99 : callOk Try.prog 99 = true := by kernel_rfl
theorem fo102_0 : fieldOffB Try.prog 102 0 = some 0 := by kernel_rfl
theorem fo102_1 : fieldOffB Try.prog 102 1 = some 2 := by kernel_rfl
theorem fo102_2 : fieldOffB Try.prog 102 2 = some 4 := by kernel_rfl
theorem fo122_0 : fieldOffB Try.prog 122 0 = some 0 := by kernel_rfl
theorem fo122_1 : fieldOffB Try.prog 122 1 = some 2 := by kernel_rfl
theorem fo122_2 : fieldOffB Try.prog 122 2 = some 4 := by kernel_rfl
theorem fo33_0 : fieldOffB Try.prog 33 0 = some 0 := by kernel_rfl
theorem fo33_1 : fieldOffB Try.prog 33 1 = some 4 := by kernel_rfl
theorem fo33_2 : fieldOffB Try.prog 33 2 = some 8 := by kernel_rfl
theorem fo37_0 : fieldOffB Try.prog 37 0 = some 0 := by kernel_rfl
theorem fo37_1 : fieldOffB Try.prog 37 1 = some 4 := by kernel_rfl
theorem fo37_2 : fieldOffB Try.prog 37 2 = some 8 := by kernel_rfl
theorem pl102 : placesB Try.prog 102 = some [(0, 2), (2, 2), (4, 2)] := by kernel_rfl
theorem pl122 : placesB Try.prog 122 = some [(0, 2), (2, 2), (4, 2)] := by kernel_rfl
theorem sz102 : sizeB Try.prog 102 = some 6 := by kernel_rfl
theorem sz122 : sizeB Try.prog 122 = some 6 := by kernel_rfl
theorem sz31 : sizeB Try.prog 31 = some 4 := by kernel_rfl
theorem sz37 : sizeB Try.prog 37 = some 12 := by kernel_rfl
theorem us156 : Try.prog.underlying 156 = some (.slice 37) := by kernel_rfl
theorem zc102 : zcB Try.prog 102 = some [.bool false, .slice none 0 0, .bool false, .slice none 0 0, .bool false, .slice none 0 0] := by kernel_rfl
theorem zc122 : zcB Try.prog 122 = some [.bool false, .slice none 0 0, .bool false, .slice none 0 0, .bool false, .slice none 0 0] := by kernel_rfl
theorem ze102 : zeroB Try.prog 102 = some #[.bool false, .slice none 0 0, .bool false, .slice none 0 0, .bool false, .slice none 0 0] := by kernel_rfl
theorem ze122 : zeroB Try.prog 122 = some #[.bool false, .slice none 0 0, .bool false, .slice none 0 0, .bool false, .slice none 0 0] := by kernel_rfl
theorem ze37 : zeroB Try.prog 37 = some #[.int .u64 0, .int .u64 0, .int .u64 0, .int .u64 0, .int .u64 0, .int .u64 0, .int .u64 0, .int .u64 0, .int .u64 0, .int .u64 0, .int .u64 0, .int .u64 0] := by kernel_rfl
set_option maxHeartbeats 1000000 in
theorem toPoint_ok {w : World} {x y u : Int}   : Ct Try.prog 21 [.agg #[.int .u64 (wv3 x), .int .u64 (wv2 x), .int .u64 (wv1 x), .int .u64 (wv0 x), .int .u64 (wv3 y), .int .u64 (wv2 y), .int .u64 (wv1 y), .int .u64 (wv0 y), .int .u64 (wv3 u), .int .u64 (wv2 u), .int .u64 (wv1 u), .int .u64 (wv0 u)]] w fun v w1 => v = .agg #[.int .u64 (wv3 x), .int .u64 (wv2 x), .int .u64 (wv1 x), .int .u64 (wv0 x), .int .u64 (wv3 y), .int .u64 (wv2 y), .int .u64 (wv1 y), .int .u64 (wv0 y), .int .u64 (wv3 u), .int .u64 (wv2 u), .int .u64 (wv1 u), .int .u64 (wv0 u)] ∧ Ext w w1 := by
 refine ct_run (n := 17) Try.func21 rfl Try.ntmps21 rfl ?_
 have E0 : Below w.heap.size w w := Below.refl _ _
 refine rk_seq ?_
 refine rk_reg ?_
 refine lw_e (oe_box (v := .agg #[.int .u64 (wv3 x), .int .u64 (wv2 x), .int .u64 (wv1 x), .int .u64 (wv0 x), .int .u64 (wv3 y), .int .u64 (wv2 y), .int .u64 (wv1 y), .int .u64 (wv0 y), .int .u64 (wv3 u), .int .u64 (wv2 u), .int .u64 (wv1 u), .int .u64 (wv0 u)]) (cs := #[.int .u64 (wv3 x), .int .u64 (wv2 x), .int .u64 (wv1 x), .int .u64 (wv0 x), .int .u64 (wv3 y), .int .u64 (wv2 y), .int .u64 (wv1 y), .int .u64 (wv0 y), .int .u64 (wv3 u), .int .u64 (wv2 u), .int .u64 (wv1 u), .int .u64 (wv0 u)]) (T rfl rfl) rfl ?_)
 intro b1 w2 n3
 have N4 : w.heap.size ≤ b1 := n3.eq ▸ E0.size
 have E5 := below_ext E0 E0.size n3.ext
 refine lw_e (oe_alloc ze37 ?_)
 intro b6 w7 n8
 have N9 : w.heap.size ≤ b6 := n8.eq ▸ E5.size
 have : b1 < b6 := n8.eq ▸ lt_of_blk n3.blk
 have E10 := below_ext E5 E5.size n8.ext
 refine lw_nil ?_
 refine rk_seq ?_
 refine rk_reg ?_
 refine lw_e (oe_alloc ze37 ?_)
 intro b11 w12 n13
 have N14 : w.heap.size ≤ b11 := n13.eq ▸ E10.size
 have : b6 < b11 := n13.eq ▸ lt_of_blk n8.blk
 have E15 := below_ext E10 E10.size n13.ext
 refine lw_nil ?_
 refine rk_seq ?_
 refine rk_reg ?_
 refine lw_v (.pointer (some ⟨b1, 0, none⟩)) (dv_fieldAddr (a := ⟨b1, 0, none⟩) (a' := ⟨b1, 0, none⟩) fo33_0 (T rfl rfl) rfl) ?_
 have H16 := (n13.ext.blk (n8.ext.blk n3.blk))
 refine lw_v (.agg #[.int .u64 (wv3 x), .int .u64 (wv2 x), .int .u64 (wv1 x), .int .u64 (wv0 x)]) (dv_loads (l := [.int .u64 (wv3 x), .int .u64 (wv2 x), .int .u64 (wv1 x), .int .u64 (wv0 x)]) agt31 sz31 (T rfl rfl) H16 rfl) ?_
 refine lw_e (oe_callf (vs := [.agg #[.int .u64 (wv3 x), .int .u64 (wv2 x), .int .u64 (wv1 x), .int .u64 (wv0 x)]]) co70 (ar1 (T rfl rfl)) (toWide_ok (z := x)  ) ?_)
 rintro _ w17 ⟨rfl, e18⟩
 have E19 := below_ext E15 E15.size e18
 refine lw_v (.pointer (some ⟨b11, 0, none⟩)) (dv_fieldAddr (a := ⟨b11, 0, none⟩) (a' := ⟨b11, 0, none⟩) fo37_0 (T rfl rfl) rfl) ?_
 have H20 := (e18.blk n13.blk)
 refine lw_e (oe_store (v := .agg #[.int .u64 (wv3 x), .int .u64 (wv2 x), .int .u64 (wv1 x), .int .u64 (wv0 x)]) (vs := [.int .u64 (wv3 x), .int .u64 (wv2 x), .int .u64 (wv1 x), .int .u64 (wv0 x)]) (l := [.int .u64 (wv3 x), .int .u64 (wv2 x), .int .u64 (wv1 x), .int .u64 (wv0 x), .int .u64 0, .int .u64 0, .int .u64 0, .int .u64 0, .int .u64 0, .int .u64 0, .int .u64 0, .int .u64 0]) (T rfl rfl) (T rfl rfl) sz35 rfl rfl rfl H20 rfl ?_)
 intro w21 s22 H23
 have E24 := below_st E19 N14 s22
 refine lw_nil ?_
 refine rk_seq ?_
 refine rk_reg ?_
 refine lw_v (.pointer (some ⟨b1, 4, none⟩)) (dv_fieldAddr (a := ⟨b1, 0, none⟩) (a' := ⟨b1, 4, none⟩) fo33_1 (T rfl rfl) rfl) ?_
 have H25 := (s22.blk (e18.blk H16) (by omega))
 refine lw_v (.agg #[.int .u64 (wv3 y), .int .u64 (wv2 y), .int .u64 (wv1 y), .int .u64 (wv0 y)]) (dv_loads (l := [.int .u64 (wv3 y), .int .u64 (wv2 y), .int .u64 (wv1 y), .int .u64 (wv0 y)]) agt31 sz31 (T rfl rfl) H25 rfl) ?_
 refine lw_e (oe_callf (vs := [.agg #[.int .u64 (wv3 y), .int .u64 (wv2 y), .int .u64 (wv1 y), .int .u64 (wv0 y)]]) co70 (ar1 (T rfl rfl)) (toWide_ok (z := y)  ) ?_)
 rintro _ w26 ⟨rfl, e27⟩
 have E28 := below_ext E24 E24.size e27
 refine lw_v (.pointer (some ⟨b11, 4, none⟩)) (dv_fieldAddr (a := ⟨b11, 0, none⟩) (a' := ⟨b11, 4, none⟩) fo37_1 (T rfl rfl) rfl) ?_
 have H29 := (e27.blk H23)
 refine lw_e (oe_store (v := .agg #[.int .u64 (wv3 y), .int .u64 (wv2 y), .int .u64 (wv1 y), .int .u64 (wv0 y)]) (vs := [.int .u64 (wv3 y), .int .u64 (wv2 y), .int .u64 (wv1 y), .int .u64 (wv0 y)]) (l := [.int .u64 (wv3 x), .int .u64 (wv2 x), .int .u64 (wv1 x), .int .u64 (wv0 x), .int .u64 (wv3 y), .int .u64 (wv2 y), .int .u64 (wv1 y), .int .u64 (wv0 y), .int .u64 0, .int .u64 0, .int .u64 0, .int .u64 0]) (T rfl rfl) (T rfl rfl) sz35 rfl rfl rfl H29 rfl ?_)
 intro w30 s31 H32
 have E33 := below_st E28 N14 s31
 refine lw_nil ?_
 refine rk_seq ?_
 refine rk_reg ?_
 refine lw_v (.pointer (some ⟨b1, 8, none⟩)) (dv_fieldAddr (a := ⟨b1, 0, none⟩) (a' := ⟨b1, 8, none⟩) fo33_2 (T rfl rfl) rfl) ?_
 have H34 := (s31.blk (e27.blk H25) (by omega))
 refine lw_v (.agg #[.int .u64 (wv3 u), .int .u64 (wv2 u), .int .u64 (wv1 u), .int .u64 (wv0 u)]) (dv_loads (l := [.int .u64 (wv3 u), .int .u64 (wv2 u), .int .u64 (wv1 u), .int .u64 (wv0 u)]) agt31 sz31 (T rfl rfl) H34 rfl) ?_
 refine lw_e (oe_callf (vs := [.agg #[.int .u64 (wv3 u), .int .u64 (wv2 u), .int .u64 (wv1 u), .int .u64 (wv0 u)]]) co70 (ar1 (T rfl rfl)) (toWide_ok (z := u)  ) ?_)
 rintro _ w35 ⟨rfl, e36⟩
 have E37 := below_ext E33 E33.size e36
 refine lw_v (.pointer (some ⟨b11, 8, none⟩)) (dv_fieldAddr (a := ⟨b11, 0, none⟩) (a' := ⟨b11, 8, none⟩) fo37_2 (T rfl rfl) rfl) ?_
 have H38 := (e36.blk H32)
 refine lw_e (oe_store (v := .agg #[.int .u64 (wv3 u), .int .u64 (wv2 u), .int .u64 (wv1 u), .int .u64 (wv0 u)]) (vs := [.int .u64 (wv3 u), .int .u64 (wv2 u), .int .u64 (wv1 u), .int .u64 (wv0 u)]) (l := [.int .u64 (wv3 x), .int .u64 (wv2 x), .int .u64 (wv1 x), .int .u64 (wv0 x), .int .u64 (wv3 y), .int .u64 (wv2 y), .int .u64 (wv1 y), .int .u64 (wv0 y), .int .u64 (wv3 u), .int .u64 (wv2 u), .int .u64 (wv1 u), .int .u64 (wv0 u)]) (T rfl rfl) (T rfl rfl) sz35 rfl rfl rfl H38 rfl ?_)
 intro w39 s40 H41
 have E42 := below_st E37 N14 s40
 refine lw_nil ?_
 refine rk_seq ?_
 refine rk_reg ?_
 refine lw_v (.agg #[.int .u64 (wv3 x), .int .u64 (wv2 x), .int .u64 (wv1 x), .int .u64 (wv0 x), .int .u64 (wv3 y), .int .u64 (wv2 y), .int .u64 (wv1 y), .int .u64 (wv0 y), .int .u64 (wv3 u), .int .u64 (wv2 u), .int .u64 (wv1 u), .int .u64 (wv0 u)]) (dv_loads (l := [.int .u64 (wv3 x), .int .u64 (wv2 x), .int .u64 (wv1 x), .int .u64 (wv0 x), .int .u64 (wv3 y), .int .u64 (wv2 y), .int .u64 (wv1 y), .int .u64 (wv0 y), .int .u64 (wv3 u), .int .u64 (wv2 u), .int .u64 (wv1 u), .int .u64 (wv0 u)]) agt37 sz37 (T rfl rfl) H41 rfl) ?_
 have H43 := (s40.blk (e36.blk (s31.blk (e27.blk (s22.blk (e18.blk (n13.ext.blk n8.blk)) (by omega))) (by omega))) (by omega))
 refine lw_e (oe_store (v := .agg #[.int .u64 (wv3 x), .int .u64 (wv2 x), .int .u64 (wv1 x), .int .u64 (wv0 x), .int .u64 (wv3 y), .int .u64 (wv2 y), .int .u64 (wv1 y), .int .u64 (wv0 y), .int .u64 (wv3 u), .int .u64 (wv2 u), .int .u64 (wv1 u), .int .u64 (wv0 u)]) (vs := [.int .u64 (wv3 x), .int .u64 (wv2 x), .int .u64 (wv1 x), .int .u64 (wv0 x), .int .u64 (wv3 y), .int .u64 (wv2 y), .int .u64 (wv1 y), .int .u64 (wv0 y), .int .u64 (wv3 u), .int .u64 (wv2 u), .int .u64 (wv1 u), .int .u64 (wv0 u)]) (l := [.int .u64 (wv3 x), .int .u64 (wv2 x), .int .u64 (wv1 x), .int .u64 (wv0 x), .int .u64 (wv3 y), .int .u64 (wv2 y), .int .u64 (wv1 y), .int .u64 (wv0 y), .int .u64 (wv3 u), .int .u64 (wv2 u), .int .u64 (wv1 u), .int .u64 (wv0 u)]) (T rfl rfl) (T rfl rfl) sz37 rfl rfl rfl H43 rfl ?_)
 intro w44 s45 H46
 have E47 := below_st E42 N9 s45
 refine lw_nil ?_
 refine rk_ret Try.func21 (v := .agg #[.int .u64 (wv3 x), .int .u64 (wv2 x), .int .u64 (wv1 x), .int .u64 (wv0 x), .int .u64 (wv3 y), .int .u64 (wv2 y), .int .u64 (wv1 y), .int .u64 (wv0 y), .int .u64 (wv3 u), .int .u64 (wv2 u), .int .u64 (wv1 u), .int .u64 (wv0 u)]) (res1 Try.results21 (rv_cells (l := [.int .u64 (wv3 x), .int .u64 (wv2 x), .int .u64 (wv1 x), .int .u64 (wv0 x), .int .u64 (wv3 y), .int .u64 (wv2 y), .int .u64 (wv1 y), .int .u64 (wv0 y), .int .u64 (wv3 u), .int .u64 (wv2 u), .int .u64 (wv1 u), .int .u64 (wv0 u)]) agt37 sz37 rfl rfl H46 rfl)) ⟨_, rfl, ?_⟩
 exact ⟨rfl, E47⟩
set_option maxHeartbeats 1000000 in
theorem l3Small_ok {w : World}  {na : Bool} {Aa : Option Addr} {la ca : Nat} {x : Int} {sx : Nat} (ha : Num 32 183 .u32 w na Aa la ca x sx) {nb : Bool} {Ab : Option Addr} {lb cb : Nat} {y : Int} {sy : Nat} (hb : Num 32 183 .u32 w nb Ab lb cb y sy) {nm : Bool} {Am : Option Addr} {lm cm : Nat} {u : Int} {su : Nat} (hm : Num 32 183 .u32 w nm Am lm cm u su) (hbsx : sx ≤ 100000) (hbsy : sy ≤ 100000) (hbsu : su ≤ 100000)  : Ct Try.prog 127 [.agg #[.bool na, .slice Aa la ca, .bool nb, .slice Ab lb cb, .bool nm, .slice Am lm cm]] w fun v w1 => v = .bool (decide (sm3 x y u)) ∧ Ext w w1 := by
 refine ct_run (n := 22) Try.func127 rfl Try.ntmps127 rfl ?_
 have E0 : Below w.heap.size w w := Below.refl _ _
 have lha := Num.len (by decide) ha
 have lhb := Num.len (by decide) hb
 have lhm := Num.len (by decide) hm
 refine rk_seq ?_
 refine rk_reg ?_
 refine lw_e (oe_box (v := .agg #[.bool na, .slice Aa la ca, .bool nb, .slice Ab lb cb, .bool nm, .slice Am lm cm]) (cs := #[.bool na, .slice Aa la ca, .bool nb, .slice Ab lb cb, .bool nm, .slice Am lm cm]) (T rfl rfl) rfl ?_)
 intro b1 w2 n3
 have N4 : w.heap.size ≤ b1 := n3.eq ▸ E0.size
 have E5 := below_ext E0 E0.size n3.ext
 refine lw_v (.bool false) (dv_assign C) ?_
 refine lw_nil ?_
 refine rk_seq ?_
 refine rk_reg ?_
 refine lw_v (.pointer (some ⟨b1, 0, none⟩)) (dv_fieldAddr (a := ⟨b1, 0, none⟩) (a' := ⟨b1, 0, none⟩) fo102_0 (T rfl rfl) rfl) ?_
 refine lw_v (.pointer (some ⟨b1, 1, none⟩)) (dv_fieldAddr (a := ⟨b1, 0, none⟩) (a' := ⟨b1, 1, none⟩) fo100_1 (T rfl rfl) rfl) ?_
 refine lw_v (.slice Aa la ca) (dv_load1 (b := b1) (o := 1) agt98 (T rfl rfl) n3.blk rfl) ?_
 have h6 := (ha.ext n3.ext)
 refine lw_e (oe_callf (vs := [.slice Aa la ca]) co167 (ar1 (T rfl rfl)) (l1Bits_wc h6.wc (by first | omega | (simp; done) | (simp; omega))) ?_)
 rintro _ w7 ⟨rfl, e8⟩
 have E9 := below_ext E5 E5.size e8
 refine lw_v (.bool (decide (((nbits ((x.natAbs : Int)).toNat : Int)) ≤ 80))) (dv_leq (a := (nbits ((x.natAbs : Int)).toNat : Int)) (b := 80) (T rfl rfl) C) ?_
 refine lw_v (.bool (decide (((nbits ((x.natAbs : Int)).toNat : Int)) ≤ 80))) (dv_move (T rfl rfl)) ?_
 by_cases hb10 : ((nbits ((x.natAbs : Int)).toNat : Int)) ≤ 80
 · refine lw_vy (.pointer (some ⟨b1, 2, none⟩)) (d := 8) rfl rfl (congrArg Value.bool (decide_eq_true hb10)) (dv_fieldAddr (a := ⟨b1, 0, none⟩) (a' := ⟨b1, 2, none⟩) fo102_1 (T rfl rfl) rfl) ?_
   refine lw_vy (.pointer (some ⟨b1, 3, none⟩)) (d := 8) rfl rfl (congrArg Value.bool (decide_eq_true hb10)) (dv_fieldAddr (a := ⟨b1, 2, none⟩) (a' := ⟨b1, 3, none⟩) fo100_1 (T rfl rfl) rfl) ?_
   have H11 := (e8.blk n3.blk)
   refine lw_vy (.slice Ab lb cb) (d := 8) rfl rfl (congrArg Value.bool (decide_eq_true hb10)) (dv_load1 (b := b1) (o := 3) agt98 (T rfl rfl) H11 rfl) ?_
   have h12 := ((hb.ext n3.ext).ext e8)
   refine lw_ey (d := 8) rfl rfl (congrArg Value.bool (decide_eq_true hb10)) (oe_callf (vs := [.slice Ab lb cb]) co167 (ar1 (T rfl rfl)) (l1Bits_wc h12.wc (by first | omega | (simp; done) | (simp; omega))) ?_)
   rintro _ w13 ⟨rfl, e14⟩
   have E15 := below_ext E9 E9.size e14
   refine lw_vy (.bool (decide (((nbits ((y.natAbs : Int)).toNat : Int)) ≤ 80))) (d := 8) rfl rfl (congrArg Value.bool (decide_eq_true hb10)) (dv_leq (a := (nbits ((y.natAbs : Int)).toNat : Int)) (b := 80) (T rfl rfl) C) ?_
   refine lw_v (.bool (decide (((nbits ((y.natAbs : Int)).toNat : Int)) ≤ 80))) (dv_pick_t (T rfl (congrArg Value.bool (decide_eq_true hb10))) (T rfl rfl)) ?_
   refine lw_v (.bool (decide (((nbits ((y.natAbs : Int)).toNat : Int)) ≤ 80))) (dv_move (T rfl rfl)) ?_
   by_cases hb16 : ((nbits ((y.natAbs : Int)).toNat : Int)) ≤ 80
   · refine lw_vy (.pointer (some ⟨b1, 4, none⟩)) (d := 15) rfl rfl (congrArg Value.bool (decide_eq_true hb16)) (dv_fieldAddr (a := ⟨b1, 0, none⟩) (a' := ⟨b1, 4, none⟩) fo102_2 (T rfl rfl) rfl) ?_
     refine lw_vy (.pointer (some ⟨b1, 5, none⟩)) (d := 15) rfl rfl (congrArg Value.bool (decide_eq_true hb16)) (dv_fieldAddr (a := ⟨b1, 4, none⟩) (a' := ⟨b1, 5, none⟩) fo100_1 (T rfl rfl) rfl) ?_
     have H17 := (e14.blk H11)
     refine lw_vy (.slice Am lm cm) (d := 15) rfl rfl (congrArg Value.bool (decide_eq_true hb16)) (dv_load1 (b := b1) (o := 5) agt98 (T rfl rfl) H17 rfl) ?_
     have h18 := (((hm.ext n3.ext).ext e8).ext e14)
     refine lw_ey (d := 15) rfl rfl (congrArg Value.bool (decide_eq_true hb16)) (oe_callf (vs := [.slice Am lm cm]) co167 (ar1 (T rfl rfl)) (l1Bits_wc h18.wc (by first | omega | (simp; done) | (simp; omega))) ?_)
     rintro _ w19 ⟨rfl, e20⟩
     have E21 := below_ext E15 E15.size e20
     refine lw_vy (.bool (decide (((nbits ((u.natAbs : Int)).toNat : Int)) ≤ 80))) (d := 15) rfl rfl (congrArg Value.bool (decide_eq_true hb16)) (dv_leq (a := (nbits ((u.natAbs : Int)).toNat : Int)) (b := 80) (T rfl rfl) C) ?_
     refine lw_v (.bool (decide (((nbits ((u.natAbs : Int)).toNat : Int)) ≤ 80))) (dv_pick_t (T rfl (congrArg Value.bool (decide_eq_true hb16))) (T rfl rfl)) ?_
     refine lw_v (.bool (decide (((nbits ((u.natAbs : Int)).toNat : Int)) ≤ 80))) (dv_assign (T rfl rfl)) ?_
     refine lw_nil ?_
     refine rk_ret Try.func127 (v := .bool (decide (((nbits ((u.natAbs : Int)).toNat : Int)) ≤ 80))) (res1 Try.results127 (rv_tmp rfl rfl)) ⟨_, rfl, ?_⟩
     exact ⟨(vb (by unfold sm3; omega)), E21⟩
   · refine lw_no (d := 15) rfl rfl (congrArg Value.bool (decide_eq_false hb16)) ?_
     refine lw_no (d := 15) rfl rfl (congrArg Value.bool (decide_eq_false hb16)) ?_
     refine lw_no (d := 15) rfl rfl (congrArg Value.bool (decide_eq_false hb16)) ?_
     refine lw_no (d := 15) rfl rfl (congrArg Value.bool (decide_eq_false hb16)) ?_
     refine lw_no (d := 15) rfl rfl (congrArg Value.bool (decide_eq_false hb16)) ?_
     refine lw_v (.bool false) (dv_pick_f (T rfl (congrArg Value.bool (decide_eq_false hb16))) C) ?_
     refine lw_v (.bool false) (dv_assign (T rfl rfl)) ?_
     refine lw_nil ?_
     refine rk_ret Try.func127 (v := .bool false) (res1 Try.results127 (rv_tmp rfl rfl)) ⟨_, rfl, ?_⟩
     exact ⟨(vf (by unfold sm3; omega)), E15⟩
 · refine lw_no (d := 8) rfl rfl (congrArg Value.bool (decide_eq_false hb10)) ?_
   refine lw_no (d := 8) rfl rfl (congrArg Value.bool (decide_eq_false hb10)) ?_
   refine lw_no (d := 8) rfl rfl (congrArg Value.bool (decide_eq_false hb10)) ?_
   refine lw_no (d := 8) rfl rfl (congrArg Value.bool (decide_eq_false hb10)) ?_
   refine lw_no (d := 8) rfl rfl (congrArg Value.bool (decide_eq_false hb10)) ?_
   refine lw_v (.bool false) (dv_pick_f (T rfl (congrArg Value.bool (decide_eq_false hb10))) C) ?_
   refine lw_v (.bool false) (dv_move (T rfl rfl)) ?_
   refine lw_no (d := 15) rfl rfl (rfl) ?_
   refine lw_no (d := 15) rfl rfl (rfl) ?_
   refine lw_no (d := 15) rfl rfl (rfl) ?_
   refine lw_no (d := 15) rfl rfl (rfl) ?_
   refine lw_no (d := 15) rfl rfl (rfl) ?_
   refine lw_v (.bool false) (dv_pick_f (T rfl rfl) C) ?_
   refine lw_v (.bool false) (dv_assign (T rfl rfl)) ?_
   refine lw_nil ?_
   refine rk_ret Try.func127 (v := .bool false) (res1 Try.results127 (rv_tmp rfl rfl)) ⟨_, rfl, ?_⟩
   exact ⟨(vf (by unfold sm3; omega)), E9⟩
set_option maxHeartbeats 1000000 in
theorem spot_ok {w : World}  {x y u : Int} (fx_ : fits x) (fy_ : fits y) (fu_ : fits u)   : Ct Try.prog 90 [.agg #[.int .u64 (wv3 x), .int .u64 (wv2 x), .int .u64 (wv1 x), .int .u64 (wv0 x), .int .u64 (wv3 y), .int .u64 (wv2 y), .int .u64 (wv1 y), .int .u64 (wv0 y), .int .u64 (wv3 u), .int .u64 (wv2 u), .int .u64 (wv1 u), .int .u64 (wv0 u)]] w fun v w1 => ∃ nr0_ A0_ l0_ c0_ nr1_ A1_ l1_ c1_ nr2_ A2_ l2_ c2_, v = .agg #[.bool nr0_, .slice A0_ l0_ c0_, .bool nr1_, .slice A1_ l1_ c1_, .bool nr2_, .slice A2_ l2_ c2_] ∧ Ext w w1 ∧ Num 64 29 .u64 w1 nr0_ A0_ l0_ c0_ (x) (256) ∧ Num 64 29 .u64 w1 nr1_ A1_ l1_ c1_ (y) (256) ∧ Num 64 29 .u64 w1 nr2_ A2_ l2_ c2_ (u) (256) := by
 refine ct_run (n := 13) Try.func90 rfl Try.ntmps90 rfl ?_
 have E0 : Below w.heap.size w w := Below.refl _ _
 refine rk_seq ?_
 refine rk_reg ?_
 refine lw_e (oe_box (v := .agg #[.int .u64 (wv3 x), .int .u64 (wv2 x), .int .u64 (wv1 x), .int .u64 (wv0 x), .int .u64 (wv3 y), .int .u64 (wv2 y), .int .u64 (wv1 y), .int .u64 (wv0 y), .int .u64 (wv3 u), .int .u64 (wv2 u), .int .u64 (wv1 u), .int .u64 (wv0 u)]) (cs := #[.int .u64 (wv3 x), .int .u64 (wv2 x), .int .u64 (wv1 x), .int .u64 (wv0 x), .int .u64 (wv3 y), .int .u64 (wv2 y), .int .u64 (wv1 y), .int .u64 (wv0 y), .int .u64 (wv3 u), .int .u64 (wv2 u), .int .u64 (wv1 u), .int .u64 (wv0 u)]) (T rfl rfl) rfl ?_)
 intro b1 w2 n3
 have N4 : w.heap.size ≤ b1 := n3.eq ▸ E0.size
 have E5 := below_ext E0 E0.size n3.ext
 refine lw_e (oe_alloc ze122 ?_)
 intro b6 w7 n8
 have N9 : w.heap.size ≤ b6 := n8.eq ▸ E5.size
 have : b1 < b6 := n8.eq ▸ lt_of_blk n3.blk
 have E10 := below_ext E5 E5.size n8.ext
 refine lw_nil ?_
 refine rk_seq ?_
 refine rk_any (fun w => w.heap[b1]? = some (.cells #[.int .u64 (wv3 x), .int .u64 (wv2 x), .int .u64 (wv1 x), .int .u64 (wv0 x), .int .u64 (wv3 y), .int .u64 (wv2 y), .int .u64 (wv1 y), .int .u64 (wv0 y), .int .u64 (wv3 u), .int .u64 (wv2 u), .int .u64 (wv1 u), .int .u64 (wv0 u)] 37)) [10] mo ?_
 intro w11 d12
 have E13 := below_ext E10 E10.size d12.ext
 have H14 := (d12.ext.blk (n8.ext.blk n3.blk))
 refine aw_pure 0 (.pointer (some ⟨b1, 0, none⟩)) rfl (by kernel_rfl) .none H14 (fun _ => dv_fieldAddr (a := ⟨b1, 0, none⟩) (a' := ⟨b1, 0, none⟩) fo37_0 (T rfl rfl) rfl) ?_
 refine aw_load 1 (.agg #[.int .u64 (wv3 x), .int .u64 (wv2 x), .int .u64 (wv1 x), .int .u64 (wv0 x)]) rfl (by kernel_rfl) .none H14 (fun _ s => dv_loads (l := [.int .u64 (wv3 x), .int .u64 (wv2 x), .int .u64 (wv1 x), .int .u64 (wv0 x)]) agt35 sz35 (T rfl rfl) s rfl) ?_
 refine aw_pure 3 (.pointer (some ⟨b1, 4, none⟩)) rfl (by kernel_rfl) .none H14 (fun _ => dv_fieldAddr (a := ⟨b1, 0, none⟩) (a' := ⟨b1, 4, none⟩) fo37_1 (T rfl rfl) rfl) ?_
 refine aw_load 4 (.agg #[.int .u64 (wv3 y), .int .u64 (wv2 y), .int .u64 (wv1 y), .int .u64 (wv0 y)]) rfl (by kernel_rfl) .none H14 (fun _ s => dv_loads (l := [.int .u64 (wv3 y), .int .u64 (wv2 y), .int .u64 (wv1 y), .int .u64 (wv0 y)]) agt35 sz35 (T rfl rfl) s rfl) ?_
 refine aw_pure 6 (.pointer (some ⟨b1, 8, none⟩)) rfl (by kernel_rfl) .none H14 (fun _ => dv_fieldAddr (a := ⟨b1, 0, none⟩) (a' := ⟨b1, 8, none⟩) fo37_2 (T rfl rfl) rfl) ?_
 refine aw_load 7 (.agg #[.int .u64 (wv3 u), .int .u64 (wv2 u), .int .u64 (wv1 u), .int .u64 (wv0 u)]) rfl (by kernel_rfl) .none H14 (fun _ s => dv_loads (l := [.int .u64 (wv3 u), .int .u64 (wv2 u), .int .u64 (wv1 u), .int .u64 (wv0 u)]) agt35 sz35 (T rfl rfl) s rfl) ?_
 refine aw_one 2 rfl (by kernel_rfl) .none (oe_callf (vs := [.agg #[.int .u64 (wv3 x), .int .u64 (wv2 x), .int .u64 (wv1 x), .int .u64 (wv0 x)]]) co146 (ar1 (T rfl rfl)) (wnumz_ok (z := x) fx_) ?_)
 rintro _ w20 ⟨nr15, A16, n17, c18, rfl, e21, h19⟩
 have E22 := below_ext E13 E13.size e21
 have lh19 := Num.len (by decide) h19
 have H23 := (e21.blk H14)
 refine ⟨.inr H23, ?_⟩
 refine aw_one 5 rfl (by kernel_rfl) .none (oe_callf (vs := [.agg #[.int .u64 (wv3 y), .int .u64 (wv2 y), .int .u64 (wv1 y), .int .u64 (wv0 y)]]) co146 (ar1 (T rfl rfl)) (wnumz_ok (z := y) fy_) ?_)
 rintro _ w29 ⟨nr24, A25, n26, c27, rfl, e30, h28⟩
 have E31 := below_ext E22 E22.size e30
 have lh28 := Num.len (by decide) h28
 have H32 := (e30.blk H23)
 refine ⟨.inr H32, ?_⟩
 refine aw_one 8 rfl (by kernel_rfl) .none (oe_callf (vs := [.agg #[.int .u64 (wv3 u), .int .u64 (wv2 u), .int .u64 (wv1 u), .int .u64 (wv0 u)]]) co146 (ar1 (T rfl rfl)) (wnumz_ok (z := u) fu_) ?_)
 rintro _ w38 ⟨nr33, A34, n35, c36, rfl, e39, h37⟩
 have E40 := below_ext E31 E31.size e39
 have lh37 := Num.len (by decide) h37
 have H41 := (e39.blk H32)
 refine ⟨.inr H41, ?_⟩
 refine aw_pure 9 (.agg #[.bool nr15, .slice A16 n17 c18, .bool nr24, .slice A25 n26 c27, .bool nr33, .slice A34 n35 c36]) rfl (by kernel_rfl) .none H41 (fun _ => dv_build (pv := [(0, .agg #[.bool nr15, .slice A16 n17 c18]), (1, .agg #[.bool nr24, .slice A25 n26 c27]), (2, .agg #[.bool nr33, .slice A34 n35 c36])]) (l := [.bool nr15, .slice A16 n17 c18, .bool nr24, .slice A25 n26 c27, .bool nr33, .slice A34 n35 c36]) zc122 pl122 ⟨rfl, (T rfl rfl), ⟨rfl, (T rfl rfl), ⟨rfl, (T rfl rfl), trivial⟩⟩⟩ rfl) ?_
 have H42 := (e39.blk (e30.blk (e21.blk (d12.ext.blk n8.blk))))
 refine aw_one 10 rfl (by kernel_rfl) .none (oe_store (v := .agg #[.bool nr15, .slice A16 n17 c18, .bool nr24, .slice A25 n26 c27, .bool nr33, .slice A34 n35 c36]) (vs := [.bool nr15, .slice A16 n17 c18, .bool nr24, .slice A25 n26 c27, .bool nr33, .slice A34 n35 c36]) (l := [.bool nr15, .slice A16 n17 c18, .bool nr24, .slice A25 n26 c27, .bool nr33, .slice A34 n35 c36]) (T rfl rfl) (T rfl rfl) sz122 rfl rfl rfl H42 rfl ?_)
 intro w43 s44 H45
 have E46 := below_st E40 N9 s44
 refine ⟨.inl rfl, ?_⟩
 refine aw_done (by kernel_rfl) ?_
 refine rk_ret Try.func90 (v := .agg #[.bool nr15, .slice A16 n17 c18, .bool nr24, .slice A25 n26 c27, .bool nr33, .slice A34 n35 c36]) (res1 Try.results90 (rv_cells (l := [.bool nr15, .slice A16 n17 c18, .bool nr24, .slice A25 n26 c27, .bool nr33, .slice A34 n35 c36]) agt122 sz122 rfl rfl H45 rfl)) ⟨_, rfl, ?_⟩
 have h47 := (((h19.ext e30).ext e39).st s44 H42 (by decide))
 have h48 := ((h28.ext e39).st s44 H42 (by decide))
 have h49 := (h37.st s44 H42 (by decide))
 exact ⟨_, _, _, _, _, _, _, _, _, _, _, _, rfl, E46, h47.to rfl (Nat.le_refl _), h48.to rfl (Nat.le_refl _), h49.to rfl (Nat.le_refl _)⟩
set_option maxHeartbeats 1000000 in
theorem l3Of_ok {w : World}  {x y u : Int} (fx_ : fits x) (fy_ : fits y) (fu_ : fits u)   : Ct Try.prog 69 [.agg #[.int .u64 (wv3 x), .int .u64 (wv2 x), .int .u64 (wv1 x), .int .u64 (wv0 x), .int .u64 (wv3 y), .int .u64 (wv2 y), .int .u64 (wv1 y), .int .u64 (wv0 y), .int .u64 (wv3 u), .int .u64 (wv2 u), .int .u64 (wv1 u), .int .u64 (wv0 u)]] w fun v w1 => ∃ nr0_ A0_ l0_ c0_ nr1_ A1_ l1_ c1_ nr2_ A2_ l2_ c2_, v = .agg #[.bool nr0_, .slice A0_ l0_ c0_, .bool nr1_, .slice A1_ l1_ c1_, .bool nr2_, .slice A2_ l2_ c2_] ∧ Ext w w1 ∧ Num 32 183 .u32 w1 nr0_ A0_ l0_ c0_ (x) (256) ∧ Num 32 183 .u32 w1 nr1_ A1_ l1_ c1_ (y) (256) ∧ Num 32 183 .u32 w1 nr2_ A2_ l2_ c2_ (u) (256) := by
 refine ct_run (n := 13) Try.func69 rfl Try.ntmps69 rfl ?_
 have E0 : Below w.heap.size w w := Below.refl _ _
 refine rk_seq ?_
 refine rk_reg ?_
 refine lw_e (oe_box (v := .agg #[.int .u64 (wv3 x), .int .u64 (wv2 x), .int .u64 (wv1 x), .int .u64 (wv0 x), .int .u64 (wv3 y), .int .u64 (wv2 y), .int .u64 (wv1 y), .int .u64 (wv0 y), .int .u64 (wv3 u), .int .u64 (wv2 u), .int .u64 (wv1 u), .int .u64 (wv0 u)]) (cs := #[.int .u64 (wv3 x), .int .u64 (wv2 x), .int .u64 (wv1 x), .int .u64 (wv0 x), .int .u64 (wv3 y), .int .u64 (wv2 y), .int .u64 (wv1 y), .int .u64 (wv0 y), .int .u64 (wv3 u), .int .u64 (wv2 u), .int .u64 (wv1 u), .int .u64 (wv0 u)]) (T rfl rfl) rfl ?_)
 intro b1 w2 n3
 have N4 : w.heap.size ≤ b1 := n3.eq ▸ E0.size
 have E5 := below_ext E0 E0.size n3.ext
 refine lw_e (oe_alloc ze102 ?_)
 intro b6 w7 n8
 have N9 : w.heap.size ≤ b6 := n8.eq ▸ E5.size
 have : b1 < b6 := n8.eq ▸ lt_of_blk n3.blk
 have E10 := below_ext E5 E5.size n8.ext
 refine lw_nil ?_
 refine rk_seq ?_
 refine rk_any (fun w => w.heap[b1]? = some (.cells #[.int .u64 (wv3 x), .int .u64 (wv2 x), .int .u64 (wv1 x), .int .u64 (wv0 x), .int .u64 (wv3 y), .int .u64 (wv2 y), .int .u64 (wv1 y), .int .u64 (wv0 y), .int .u64 (wv3 u), .int .u64 (wv2 u), .int .u64 (wv1 u), .int .u64 (wv0 u)] 37)) [10] mo ?_
 intro w11 d12
 have E13 := below_ext E10 E10.size d12.ext
 have H14 := (d12.ext.blk (n8.ext.blk n3.blk))
 refine aw_pure 0 (.pointer (some ⟨b1, 0, none⟩)) rfl (by kernel_rfl) .none H14 (fun _ => dv_fieldAddr (a := ⟨b1, 0, none⟩) (a' := ⟨b1, 0, none⟩) fo37_0 (T rfl rfl) rfl) ?_
 refine aw_load 1 (.agg #[.int .u64 (wv3 x), .int .u64 (wv2 x), .int .u64 (wv1 x), .int .u64 (wv0 x)]) rfl (by kernel_rfl) .none H14 (fun _ s => dv_loads (l := [.int .u64 (wv3 x), .int .u64 (wv2 x), .int .u64 (wv1 x), .int .u64 (wv0 x)]) agt35 sz35 (T rfl rfl) s rfl) ?_
 refine aw_pure 3 (.pointer (some ⟨b1, 4, none⟩)) rfl (by kernel_rfl) .none H14 (fun _ => dv_fieldAddr (a := ⟨b1, 0, none⟩) (a' := ⟨b1, 4, none⟩) fo37_1 (T rfl rfl) rfl) ?_
 refine aw_load 4 (.agg #[.int .u64 (wv3 y), .int .u64 (wv2 y), .int .u64 (wv1 y), .int .u64 (wv0 y)]) rfl (by kernel_rfl) .none H14 (fun _ s => dv_loads (l := [.int .u64 (wv3 y), .int .u64 (wv2 y), .int .u64 (wv1 y), .int .u64 (wv0 y)]) agt35 sz35 (T rfl rfl) s rfl) ?_
 refine aw_pure 6 (.pointer (some ⟨b1, 8, none⟩)) rfl (by kernel_rfl) .none H14 (fun _ => dv_fieldAddr (a := ⟨b1, 0, none⟩) (a' := ⟨b1, 8, none⟩) fo37_2 (T rfl rfl) rfl) ?_
 refine aw_load 7 (.agg #[.int .u64 (wv3 u), .int .u64 (wv2 u), .int .u64 (wv1 u), .int .u64 (wv0 u)]) rfl (by kernel_rfl) .none H14 (fun _ s => dv_loads (l := [.int .u64 (wv3 u), .int .u64 (wv2 u), .int .u64 (wv1 u), .int .u64 (wv0 u)]) agt35 sz35 (T rfl rfl) s rfl) ?_
 refine aw_one 2 rfl (by kernel_rfl) .none (oe_callf (vs := [.agg #[.int .u64 (wv3 x), .int .u64 (wv2 x), .int .u64 (wv1 x), .int .u64 (wv0 x)]]) co130 (ar1 (T rfl rfl)) (l1Fromz_ok (z := x) fx_) ?_)
 rintro _ w20 ⟨nr15, A16, n17, c18, rfl, e21, h19⟩
 have E22 := below_ext E13 E13.size e21
 have lh19 := Num.len (by decide) h19
 have H23 := (e21.blk H14)
 refine ⟨.inr H23, ?_⟩
 refine aw_one 5 rfl (by kernel_rfl) .none (oe_callf (vs := [.agg #[.int .u64 (wv3 y), .int .u64 (wv2 y), .int .u64 (wv1 y), .int .u64 (wv0 y)]]) co130 (ar1 (T rfl rfl)) (l1Fromz_ok (z := y) fy_) ?_)
 rintro _ w29 ⟨nr24, A25, n26, c27, rfl, e30, h28⟩
 have E31 := below_ext E22 E22.size e30
 have lh28 := Num.len (by decide) h28
 have H32 := (e30.blk H23)
 refine ⟨.inr H32, ?_⟩
 refine aw_one 8 rfl (by kernel_rfl) .none (oe_callf (vs := [.agg #[.int .u64 (wv3 u), .int .u64 (wv2 u), .int .u64 (wv1 u), .int .u64 (wv0 u)]]) co130 (ar1 (T rfl rfl)) (l1Fromz_ok (z := u) fu_) ?_)
 rintro _ w38 ⟨nr33, A34, n35, c36, rfl, e39, h37⟩
 have E40 := below_ext E31 E31.size e39
 have lh37 := Num.len (by decide) h37
 have H41 := (e39.blk H32)
 refine ⟨.inr H41, ?_⟩
 refine aw_pure 9 (.agg #[.bool nr15, .slice A16 n17 c18, .bool nr24, .slice A25 n26 c27, .bool nr33, .slice A34 n35 c36]) rfl (by kernel_rfl) .none H41 (fun _ => dv_build (pv := [(0, .agg #[.bool nr15, .slice A16 n17 c18]), (1, .agg #[.bool nr24, .slice A25 n26 c27]), (2, .agg #[.bool nr33, .slice A34 n35 c36])]) (l := [.bool nr15, .slice A16 n17 c18, .bool nr24, .slice A25 n26 c27, .bool nr33, .slice A34 n35 c36]) zc102 pl102 ⟨rfl, (T rfl rfl), ⟨rfl, (T rfl rfl), ⟨rfl, (T rfl rfl), trivial⟩⟩⟩ rfl) ?_
 have H42 := (e39.blk (e30.blk (e21.blk (d12.ext.blk n8.blk))))
 refine aw_one 10 rfl (by kernel_rfl) .none (oe_store (v := .agg #[.bool nr15, .slice A16 n17 c18, .bool nr24, .slice A25 n26 c27, .bool nr33, .slice A34 n35 c36]) (vs := [.bool nr15, .slice A16 n17 c18, .bool nr24, .slice A25 n26 c27, .bool nr33, .slice A34 n35 c36]) (l := [.bool nr15, .slice A16 n17 c18, .bool nr24, .slice A25 n26 c27, .bool nr33, .slice A34 n35 c36]) (T rfl rfl) (T rfl rfl) sz102 rfl rfl rfl H42 rfl ?_)
 intro w43 s44 H45
 have E46 := below_st E40 N9 s44
 refine ⟨.inl rfl, ?_⟩
 refine aw_done (by kernel_rfl) ?_
 refine rk_ret Try.func69 (v := .agg #[.bool nr15, .slice A16 n17 c18, .bool nr24, .slice A25 n26 c27, .bool nr33, .slice A34 n35 c36]) (res1 Try.results69 (rv_cells (l := [.bool nr15, .slice A16 n17 c18, .bool nr24, .slice A25 n26 c27, .bool nr33, .slice A34 n35 c36]) agt102 sz102 rfl rfl H45 rfl)) ⟨_, rfl, ?_⟩
 have h47 := (((h19.ext e30).ext e39).st s44 H42 (by decide))
 have h48 := ((h28.ext e39).st s44 H42 (by decide))
 have h49 := (h37.st s44 H42 (by decide))
 exact ⟨_, _, _, _, _, _, _, _, _, _, _, _, rfl, E46, h47.to rfl (Nat.le_refl _), h48.to rfl (Nat.le_refl _), h49.to rfl (Nat.le_refl _)⟩
set_option maxHeartbeats 1000000 in
theorem sPointOk_ok {w : World} {x y u : Int} (fx_ : fits x) (fy_ : fits y) (fu_ : fits u)  : Ct Try.prog 67 [.agg #[.int .u64 (wv3 x), .int .u64 (wv2 x), .int .u64 (wv1 x), .int .u64 (wv0 x), .int .u64 (wv3 y), .int .u64 (wv2 y), .int .u64 (wv1 y), .int .u64 (wv0 y), .int .u64 (wv3 u), .int .u64 (wv2 u), .int .u64 (wv1 u), .int .u64 (wv0 u)]] w fun v w1 => v = .bool (decide (pOk x y u)) ∧ Ext w w1 := by
 refine ct_run (n := 27) Try.func67 rfl Try.ntmps67 rfl ?_
 have E0 : Below w.heap.size w w := Below.refl _ _
 refine rk_seq ?_
 refine rk_reg ?_
 refine lw_e (oe_box (v := .agg #[.int .u64 (wv3 x), .int .u64 (wv2 x), .int .u64 (wv1 x), .int .u64 (wv0 x), .int .u64 (wv3 y), .int .u64 (wv2 y), .int .u64 (wv1 y), .int .u64 (wv0 y), .int .u64 (wv3 u), .int .u64 (wv2 u), .int .u64 (wv1 u), .int .u64 (wv0 u)]) (cs := #[.int .u64 (wv3 x), .int .u64 (wv2 x), .int .u64 (wv1 x), .int .u64 (wv0 x), .int .u64 (wv3 y), .int .u64 (wv2 y), .int .u64 (wv1 y), .int .u64 (wv0 y), .int .u64 (wv3 u), .int .u64 (wv2 u), .int .u64 (wv1 u), .int .u64 (wv0 u)]) (T rfl rfl) rfl ?_)
 intro b1 w2 n3
 have N4 : w.heap.size ≤ b1 := n3.eq ▸ E0.size
 have E5 := below_ext E0 E0.size n3.ext
 refine lw_v (.bool false) (dv_assign C) ?_
 refine lw_nil ?_
 refine rk_seq ?_
 refine rk_reg ?_
 refine lw_v (.agg #[.int .u64 (wv3 x), .int .u64 (wv2 x), .int .u64 (wv1 x), .int .u64 (wv0 x), .int .u64 (wv3 y), .int .u64 (wv2 y), .int .u64 (wv1 y), .int .u64 (wv0 y), .int .u64 (wv3 u), .int .u64 (wv2 u), .int .u64 (wv1 u), .int .u64 (wv0 u)]) (dv_loads (l := [.int .u64 (wv3 x), .int .u64 (wv2 x), .int .u64 (wv1 x), .int .u64 (wv0 x), .int .u64 (wv3 y), .int .u64 (wv2 y), .int .u64 (wv1 y), .int .u64 (wv0 y), .int .u64 (wv3 u), .int .u64 (wv2 u), .int .u64 (wv1 u), .int .u64 (wv0 u)]) agt37 sz37 (T rfl rfl) n3.blk rfl) ?_
 refine lw_e (oe_callf (vs := [.agg #[.int .u64 (wv3 x), .int .u64 (wv2 x), .int .u64 (wv1 x), .int .u64 (wv0 x), .int .u64 (wv3 y), .int .u64 (wv2 y), .int .u64 (wv1 y), .int .u64 (wv0 y), .int .u64 (wv3 u), .int .u64 (wv2 u), .int .u64 (wv1 u), .int .u64 (wv0 u)]]) co69 (ar1 (T rfl rfl)) (l3Of_ok fx_ fy_ fu_  ) ?_)
 rintro _ w21 ⟨nr6, A7, n8, c9, nr10, A11, n12, c13, nr14, A15, n16, c17, rfl, e22, h18, h19, h20⟩
 have E23 := below_ext E5 E5.size e22
 have lh18 := Num.len (by decide) h18
 have lh19 := Num.len (by decide) h19
 have lh20 := Num.len (by decide) h20
 refine lw_e (oe_alloc ze102 ?_)
 intro b24 w25 n26
 have N27 : w.heap.size ≤ b24 := n26.eq ▸ E23.size
 have H28 := (e22.blk n3.blk)
 have : b1 < b24 := n26.eq ▸ lt_of_blk H28
 have E29 := below_ext E23 E23.size n26.ext
 refine lw_e (oe_store (v := .agg #[.bool nr6, .slice A7 n8 c9, .bool nr10, .slice A11 n12 c13, .bool nr14, .slice A15 n16 c17]) (vs := [.bool nr6, .slice A7 n8 c9, .bool nr10, .slice A11 n12 c13, .bool nr14, .slice A15 n16 c17]) (l := [.bool nr6, .slice A7 n8 c9, .bool nr10, .slice A11 n12 c13, .bool nr14, .slice A15 n16 c17]) (T rfl rfl) (T rfl rfl) sz102 rfl rfl rfl n26.blk rfl ?_)
 intro w30 s31 H32
 have E33 := below_st E29 N27 s31
 refine lw_nil ?_
 refine rk_seq ?_
 refine rk_any (fun w => w.heap[b24]? = some (.cells #[.bool nr6, .slice A7 n8 c9, .bool nr10, .slice A11 n12 c13, .bool nr14, .slice A15 n16 c17] 102)) [21] mo ?_
 intro w34 d35
 have E36 := below_ext E33 E33.size d35.ext
 have H37 := (d35.ext.blk H32)
 refine aw_pure 0 (.pointer (some ⟨b24, 4, none⟩)) rfl (by kernel_rfl) .none H37 (fun _ => dv_fieldAddr (a := ⟨b24, 0, none⟩) (a' := ⟨b24, 4, none⟩) fo102_2 (T rfl rfl) rfl) ?_
 refine aw_load 1 (.agg #[.bool nr14, .slice A15 n16 c17]) rfl (by kernel_rfl) .none H37 (fun _ s => dv_loads (l := [.bool nr14, .slice A15 n16 c17]) agt100 sz100 (T rfl rfl) s rfl) ?_
 have h38 := (((h20.ext n26.ext).st s31 n26.blk (by decide)).ext d35.ext)
 refine aw_one 2 rfl (by kernel_rfl) .none (oe_callf (vs := [.agg #[.bool nr14, .slice A15 n16 c17]]) co126 (ar1 (T rfl rfl)) (l1Sign_ok h38 ) ?_)
 rintro _ w39 ⟨rfl, e40⟩
 have E41 := below_ext E36 E36.size e40
 have H42 := (e40.blk H37)
 refine ⟨.inr H42, ?_⟩
 refine aw_pure 3 (.bool (decide (0 < (sgnI u)))) rfl (by kernel_rfl) .none H42 (fun _ => dv_gtr (a := sgnI u) (b := 0) (T rfl rfl) C) ?_
 refine aw_pure 4 (.bool (decide (0 < (sgnI u)))) rfl (by kernel_rfl) .none H42 (fun _ => dv_move (T rfl rfl)) ?_
 by_cases hb43 : 0 < (sgnI u)
 · refine aw_load 5 (.agg #[.bool nr6, .slice A7 n8 c9, .bool nr10, .slice A11 n12 c13, .bool nr14, .slice A15 n16 c17]) rfl (by kernel_rfl) (.yes (d := 10) rfl rfl (congrArg Value.bool (decide_eq_true hb43))) H42 (fun _ s => dv_loads (l := [.bool nr6, .slice A7 n8 c9, .bool nr10, .slice A11 n12 c13, .bool nr14, .slice A15 n16 c17]) agt102 sz102 (T rfl rfl) s rfl) ?_
   have h44 := ((((h18.ext n26.ext).st s31 n26.blk (by decide)).ext d35.ext).ext e40)
   have h45 := ((((h19.ext n26.ext).st s31 n26.blk (by decide)).ext d35.ext).ext e40)
   have h46 := (h38.ext e40)
   refine aw_one 6 rfl (by kernel_rfl) (.yes (d := 10) rfl rfl (congrArg Value.bool (decide_eq_true hb43))) (oe_callf (vs := [.agg #[.bool nr6, .slice A7 n8 c9, .bool nr10, .slice A11 n12 c13, .bool nr14, .slice A15 n16 c17]]) co127 (ar1 (T rfl rfl)) (l3Small_ok h44 h45 h46 (by first | decide | omega) (by first | decide | omega) (by first | decide | omega) ) ?_)
   rintro _ w47 ⟨rfl, e48⟩
   have E49 := below_ext E41 E41.size e48
   have H50 := (e48.blk H42)
   refine ⟨.inr H50, ?_⟩
   refine aw_pure 7 (.bool (decide (sm3 x y u))) rfl (by kernel_rfl) .none H50 (fun _ => dv_pick_t (T rfl (congrArg Value.bool (decide_eq_true hb43))) (T rfl rfl)) ?_
   refine aw_pure 8 (.bool (decide (sm3 x y u))) rfl (by kernel_rfl) .none H50 (fun _ => dv_move (T rfl rfl)) ?_
   by_cases hb51 : sm3 x y u
   · refine aw_pure 9 (.pointer (some ⟨b24, 0, none⟩)) rfl (by kernel_rfl) (.yes (d := 14) rfl rfl (congrArg Value.bool (decide_eq_true hb51))) H50 (fun _ => dv_fieldAddr (a := ⟨b24, 0, none⟩) (a' := ⟨b24, 0, none⟩) fo102_0 (T rfl rfl) rfl) ?_
     refine aw_load 10 (.agg #[.bool nr6, .slice A7 n8 c9]) rfl (by kernel_rfl) (.yes (d := 14) rfl rfl (congrArg Value.bool (decide_eq_true hb51))) H50 (fun _ s => dv_loads (l := [.bool nr6, .slice A7 n8 c9]) agt100 sz100 (T rfl rfl) s rfl) ?_
     refine aw_pure 11 (.pointer (some ⟨b24, 2, none⟩)) rfl (by kernel_rfl) (.yes (d := 14) rfl rfl (congrArg Value.bool (decide_eq_true hb51))) H50 (fun _ => dv_fieldAddr (a := ⟨b24, 0, none⟩) (a' := ⟨b24, 2, none⟩) fo102_1 (T rfl rfl) rfl) ?_
     refine aw_load 12 (.agg #[.bool nr10, .slice A11 n12 c13]) rfl (by kernel_rfl) (.yes (d := 14) rfl rfl (congrArg Value.bool (decide_eq_true hb51))) H50 (fun _ s => dv_loads (l := [.bool nr10, .slice A11 n12 c13]) agt100 sz100 (T rfl rfl) s rfl) ?_
     refine aw_pure 14 (.pointer (some ⟨b24, 4, none⟩)) rfl (by kernel_rfl) (.yes (d := 14) rfl rfl (congrArg Value.bool (decide_eq_true hb51))) H50 (fun _ => dv_fieldAddr (a := ⟨b24, 0, none⟩) (a' := ⟨b24, 4, none⟩) fo102_2 (T rfl rfl) rfl) ?_
     refine aw_load 15 (.agg #[.bool nr14, .slice A15 n16 c17]) rfl (by kernel_rfl) (.yes (d := 14) rfl rfl (congrArg Value.bool (decide_eq_true hb51))) H50 (fun _ s => dv_loads (l := [.bool nr14, .slice A15 n16 c17]) agt100 sz100 (T rfl rfl) s rfl) ?_
     have h52 := (h44.ext e48)
     have h53 := (h45.ext e48)
     refine aw_one 13 rfl (by kernel_rfl) (.yes (d := 14) rfl rfl (congrArg Value.bool (decide_eq_true hb51))) (oe_callf (vs := [.agg #[.bool nr6, .slice A7 n8 c9], .agg #[.bool nr10, .slice A11 n12 c13]]) co129 (ar2 (T rfl rfl) (T rfl rfl)) (l1Gcd_ok h52 h53 (by first | decide | omega) (by first | decide | omega)) ?_)
     rintro _ w59 ⟨nr54, A55, n56, c57, rfl, e60, h58⟩
     have E61 := below_ext E49 E49.size e60
     have lh58 := Num.len (by decide) h58
     have H62 := (e60.blk H50)
     refine ⟨.inr H62, ?_⟩
     have h63 := ((h46.ext e48).ext e60)
     refine aw_one 16 rfl (by kernel_rfl) (.yes (d := 14) rfl rfl (congrArg Value.bool (decide_eq_true hb51))) (oe_callf (vs := [.agg #[.bool nr54, .slice A55 n56 c57], .agg #[.bool nr14, .slice A15 n16 c17]]) co129 (ar2 (T rfl rfl) (T rfl rfl)) (l1Gcd_ok h58 h63 (by first | decide | omega) (by first | decide | omega)) ?_)
     rintro _ w69 ⟨nr64, A65, n66, c67, rfl, e70, h68⟩
     have E71 := below_ext E61 E61.size e70
     have lh68 := Num.len (by decide) h68
     have H72 := (e70.blk H62)
     refine ⟨.inr H72, ?_⟩
     refine aw_one 17 rfl (by kernel_rfl) (.yes (d := 14) rfl rfl (congrArg Value.bool (decide_eq_true hb51))) (oe_callf (vs := [.int .i64 1]) co100 (ar1 C) (l1Int_ok  (by omega)) ?_)
     rintro _ w78 ⟨nr73, A74, n75, c76, rfl, e79, h77⟩
     have E80 := below_ext E71 E71.size e79
     have lh77 := Num.len (by decide) h77
     have H81 := (e79.blk H72)
     refine ⟨.inr H81, ?_⟩
     have h82 := (h68.ext e79)
     refine aw_one 18 rfl (by kernel_rfl) (.yes (d := 14) rfl rfl (congrArg Value.bool (decide_eq_true hb51))) (oe_callf (vs := [.agg #[.bool nr64, .slice A65 n66 c67], .agg #[.bool nr73, .slice A74 n75 c76]]) co128 (ar2 (T rfl rfl) (T rfl rfl)) (l1Cmp_ok h82 h77 (by first | decide | omega) (by first | decide | omega)) ?_)
     rintro _ w83 ⟨rfl, e84⟩
     have E85 := below_ext E80 E80.size e84
     have H86 := (e84.blk H81)
     refine ⟨.inr H86, ?_⟩
     refine aw_pure 19 (.bool (decide ((sgnI ((gI (gI x y) u) - 1)) = 0))) rfl (by kernel_rfl) (.yes (d := 14) rfl rfl (congrArg Value.bool (decide_eq_true hb51))) H86 (fun _ => dv_eql (a := sgnI ((gI (gI x y) u) - 1)) (b := 0) (T rfl rfl) C) ?_
     refine aw_pure 20 (.bool (decide ((sgnI ((gI (gI x y) u) - 1)) = 0))) rfl (by kernel_rfl) .none H86 (fun _ => dv_pick_t (T rfl (congrArg Value.bool (decide_eq_true hb51))) (T rfl rfl)) ?_
     refine aw_last 21 (.bool (decide ((sgnI ((gI (gI x y) u) - 1)) = 0))) rfl (by kernel_rfl) .none (fun _ => dv_assign (T rfl rfl)) ?_
     refine aw_done (by kernel_rfl) ?_
     refine rk_ret Try.func67 (v := .bool (decide ((sgnI ((gI (gI x y) u) - 1)) = 0))) (res1 Try.results67 (rv_tmp rfl rfl)) ⟨_, rfl, ?_⟩
     have h1 : sm3 x y u := by first | assumption | exact sm3_iff.2 (mx3.1 ‹_›)
     have h2 : 0 < u := sgnI_gt.1 (by assumption)
     have h3 := @sgnI_zero (gI3 x y u - 1)
     exact ⟨(vb ⟨fun hh => ⟨h2, h1, by have := h3.1 hh; omega⟩, fun hh => h3.2 (by have := hh.2.2; omega)⟩), E85⟩
   · refine aw_no 9 rfl (by kernel_rfl) (d := 14) rfl rfl (congrArg Value.bool (decide_eq_false hb51)) H50 ?_
     refine aw_no 10 rfl (by kernel_rfl) (d := 14) rfl rfl (congrArg Value.bool (decide_eq_false hb51)) H50 ?_
     refine aw_no 11 rfl (by kernel_rfl) (d := 14) rfl rfl (congrArg Value.bool (decide_eq_false hb51)) H50 ?_
     refine aw_no 12 rfl (by kernel_rfl) (d := 14) rfl rfl (congrArg Value.bool (decide_eq_false hb51)) H50 ?_
     refine aw_no 13 rfl (by kernel_rfl) (d := 14) rfl rfl (congrArg Value.bool (decide_eq_false hb51)) H50 ?_
     refine aw_no 14 rfl (by kernel_rfl) (d := 14) rfl rfl (congrArg Value.bool (decide_eq_false hb51)) H50 ?_
     refine aw_no 15 rfl (by kernel_rfl) (d := 14) rfl rfl (congrArg Value.bool (decide_eq_false hb51)) H50 ?_
     refine aw_no 16 rfl (by kernel_rfl) (d := 14) rfl rfl (congrArg Value.bool (decide_eq_false hb51)) H50 ?_
     refine aw_no 17 rfl (by kernel_rfl) (d := 14) rfl rfl (congrArg Value.bool (decide_eq_false hb51)) H50 ?_
     refine aw_no 18 rfl (by kernel_rfl) (d := 14) rfl rfl (congrArg Value.bool (decide_eq_false hb51)) H50 ?_
     refine aw_no 19 rfl (by kernel_rfl) (d := 14) rfl rfl (congrArg Value.bool (decide_eq_false hb51)) H50 ?_
     refine aw_pure 20 (.bool false) rfl (by kernel_rfl) .none H50 (fun _ => dv_pick_f (T rfl (congrArg Value.bool (decide_eq_false hb51))) C) ?_
     refine aw_last 21 (.bool false) rfl (by kernel_rfl) .none (fun _ => dv_assign (T rfl rfl)) ?_
     refine aw_done (by kernel_rfl) ?_
     refine rk_ret Try.func67 (v := .bool false) (res1 Try.results67 (rv_tmp rfl rfl)) ⟨_, rfl, ?_⟩
     exact ⟨(vf (by intro hh; have h1 := sgnI_gt.2 hh.1; have h2 := hh.2.1; first | (exact absurd h2 (by assumption)) | (exact absurd (mx3.2 (sm3_iff.1 h2)) (by assumption)) | contradiction | omega)), E49⟩
 · refine aw_no 5 rfl (by kernel_rfl) (d := 10) rfl rfl (congrArg Value.bool (decide_eq_false hb43)) H42 ?_
   refine aw_no 6 rfl (by kernel_rfl) (d := 10) rfl rfl (congrArg Value.bool (decide_eq_false hb43)) H42 ?_
   refine aw_pure 7 (.bool false) rfl (by kernel_rfl) .none H42 (fun _ => dv_pick_f (T rfl (congrArg Value.bool (decide_eq_false hb43))) C) ?_
   refine aw_pure 8 (.bool false) rfl (by kernel_rfl) .none H42 (fun _ => dv_move (T rfl rfl)) ?_
   refine aw_no 9 rfl (by kernel_rfl) (d := 14) rfl rfl (rfl) H42 ?_
   refine aw_no 10 rfl (by kernel_rfl) (d := 14) rfl rfl (rfl) H42 ?_
   refine aw_no 11 rfl (by kernel_rfl) (d := 14) rfl rfl (rfl) H42 ?_
   refine aw_no 12 rfl (by kernel_rfl) (d := 14) rfl rfl (rfl) H42 ?_
   refine aw_no 13 rfl (by kernel_rfl) (d := 14) rfl rfl (rfl) H42 ?_
   refine aw_no 14 rfl (by kernel_rfl) (d := 14) rfl rfl (rfl) H42 ?_
   refine aw_no 15 rfl (by kernel_rfl) (d := 14) rfl rfl (rfl) H42 ?_
   refine aw_no 16 rfl (by kernel_rfl) (d := 14) rfl rfl (rfl) H42 ?_
   refine aw_no 17 rfl (by kernel_rfl) (d := 14) rfl rfl (rfl) H42 ?_
   refine aw_no 18 rfl (by kernel_rfl) (d := 14) rfl rfl (rfl) H42 ?_
   refine aw_no 19 rfl (by kernel_rfl) (d := 14) rfl rfl (rfl) H42 ?_
   refine aw_pure 20 (.bool false) rfl (by kernel_rfl) .none H42 (fun _ => dv_pick_f (T rfl rfl) C) ?_
   refine aw_last 21 (.bool false) rfl (by kernel_rfl) .none (fun _ => dv_assign (T rfl rfl)) ?_
   refine aw_done (by kernel_rfl) ?_
   refine rk_ret Try.func67 (v := .bool false) (res1 Try.results67 (rv_tmp rfl rfl)) ⟨_, rfl, ?_⟩
   exact ⟨(vf (by intro hh; have h1 := sgnI_gt.2 hh.1; have h2 := hh.2.1; first | (exact absurd h2 (by assumption)) | (exact absurd (mx3.2 (sm3_iff.1 h2)) (by assumption)) | contradiction | omega)), E41⟩
set_option maxHeartbeats 1000000 in
theorem iPointOk_ok {w : World} {x y u : Int} (fx_ : fits x) (fy_ : fits y) (fu_ : fits u)  : Ct Try.prog 75 [.agg #[.int .u64 (wv3 x), .int .u64 (wv2 x), .int .u64 (wv1 x), .int .u64 (wv0 x), .int .u64 (wv3 y), .int .u64 (wv2 y), .int .u64 (wv1 y), .int .u64 (wv0 y), .int .u64 (wv3 u), .int .u64 (wv2 u), .int .u64 (wv1 u), .int .u64 (wv0 u)]] w fun v w1 => v = .bool (decide (pOk x y u)) ∧ Ext w w1 := by
 refine ct_run (n := 36) Try.func75 rfl Try.ntmps75 rfl ?_
 have E0 : Below w.heap.size w w := Below.refl _ _
 refine rk_seq ?_
 refine rk_reg ?_
 refine lw_e (oe_box (v := .agg #[.int .u64 (wv3 x), .int .u64 (wv2 x), .int .u64 (wv1 x), .int .u64 (wv0 x), .int .u64 (wv3 y), .int .u64 (wv2 y), .int .u64 (wv1 y), .int .u64 (wv0 y), .int .u64 (wv3 u), .int .u64 (wv2 u), .int .u64 (wv1 u), .int .u64 (wv0 u)]) (cs := #[.int .u64 (wv3 x), .int .u64 (wv2 x), .int .u64 (wv1 x), .int .u64 (wv0 x), .int .u64 (wv3 y), .int .u64 (wv2 y), .int .u64 (wv1 y), .int .u64 (wv0 y), .int .u64 (wv3 u), .int .u64 (wv2 u), .int .u64 (wv1 u), .int .u64 (wv0 u)]) (T rfl rfl) rfl ?_)
 intro b1 w2 n3
 have N4 : w.heap.size ≤ b1 := n3.eq ▸ E0.size
 have E5 := below_ext E0 E0.size n3.ext
 refine lw_v (.bool false) (dv_assign C) ?_
 refine lw_nil ?_
 refine rk_seq ?_
 refine rk_reg ?_
 refine lw_v (.agg #[.int .u64 (wv3 x), .int .u64 (wv2 x), .int .u64 (wv1 x), .int .u64 (wv0 x), .int .u64 (wv3 y), .int .u64 (wv2 y), .int .u64 (wv1 y), .int .u64 (wv0 y), .int .u64 (wv3 u), .int .u64 (wv2 u), .int .u64 (wv1 u), .int .u64 (wv0 u)]) (dv_loads (l := [.int .u64 (wv3 x), .int .u64 (wv2 x), .int .u64 (wv1 x), .int .u64 (wv0 x), .int .u64 (wv3 y), .int .u64 (wv2 y), .int .u64 (wv1 y), .int .u64 (wv0 y), .int .u64 (wv3 u), .int .u64 (wv2 u), .int .u64 (wv1 u), .int .u64 (wv0 u)]) agt37 sz37 (T rfl rfl) n3.blk rfl) ?_
 refine lw_e (oe_callf (vs := [.agg #[.int .u64 (wv3 x), .int .u64 (wv2 x), .int .u64 (wv1 x), .int .u64 (wv0 x), .int .u64 (wv3 y), .int .u64 (wv2 y), .int .u64 (wv1 y), .int .u64 (wv0 y), .int .u64 (wv3 u), .int .u64 (wv2 u), .int .u64 (wv1 u), .int .u64 (wv0 u)]]) co90 (ar1 (T rfl rfl)) (spot_ok fx_ fy_ fu_  ) ?_)
 rintro _ w21 ⟨nr6, A7, n8, c9, nr10, A11, n12, c13, nr14, A15, n16, c17, rfl, e22, h18, h19, h20⟩
 have E23 := below_ext E5 E5.size e22
 have lh18 := Num.len (by decide) h18
 have lh19 := Num.len (by decide) h19
 have lh20 := Num.len (by decide) h20
 refine lw_e (oe_alloc ze122 ?_)
 intro b24 w25 n26
 have N27 : w.heap.size ≤ b24 := n26.eq ▸ E23.size
 have H28 := (e22.blk n3.blk)
 have : b1 < b24 := n26.eq ▸ lt_of_blk H28
 have E29 := below_ext E23 E23.size n26.ext
 refine lw_e (oe_store (v := .agg #[.bool nr6, .slice A7 n8 c9, .bool nr10, .slice A11 n12 c13, .bool nr14, .slice A15 n16 c17]) (vs := [.bool nr6, .slice A7 n8 c9, .bool nr10, .slice A11 n12 c13, .bool nr14, .slice A15 n16 c17]) (l := [.bool nr6, .slice A7 n8 c9, .bool nr10, .slice A11 n12 c13, .bool nr14, .slice A15 n16 c17]) (T rfl rfl) (T rfl rfl) sz122 rfl rfl rfl n26.blk rfl ?_)
 intro w30 s31 H32
 have E33 := below_st E29 N27 s31
 refine lw_nil ?_
 refine rk_seq ?_
 refine rk_any (fun w => w.heap[b24]? = some (.cells #[.bool nr6, .slice A7 n8 c9, .bool nr10, .slice A11 n12 c13, .bool nr14, .slice A15 n16 c17] 122)) [30] mo ?_
 intro w34 d35
 have E36 := below_ext E33 E33.size d35.ext
 have H37 := (d35.ext.blk H32)
 refine aw_pure 0 (.pointer (some ⟨b24, 4, none⟩)) rfl (by kernel_rfl) .none H37 (fun _ => dv_fieldAddr (a := ⟨b24, 0, none⟩) (a' := ⟨b24, 4, none⟩) fo122_2 (T rfl rfl) rfl) ?_
 refine aw_load 1 (.agg #[.bool nr14, .slice A15 n16 c17]) rfl (by kernel_rfl) .none H37 (fun _ s => dv_loads (l := [.bool nr14, .slice A15 n16 c17]) agt120 sz120 (T rfl rfl) s rfl) ?_
 have h38 := (((h20.ext n26.ext).st s31 n26.blk (by decide)).ext d35.ext)
 refine aw_one 2 rfl (by kernel_rfl) .none (oe_callf (vs := [.agg #[.bool nr14, .slice A15 n16 c17]]) co132 (ar1 (T rfl rfl)) (nsign_ok h38 ) ?_)
 rintro _ w39 ⟨rfl, e40⟩
 have E41 := below_ext E36 E36.size e40
 have H42 := (e40.blk H37)
 refine ⟨.inr H42, ?_⟩
 refine aw_pure 3 (.bool (decide (0 < (sgnI u)))) rfl (by kernel_rfl) .none H42 (fun _ => dv_gtr (a := sgnI u) (b := 0) (T rfl rfl) C) ?_
 refine aw_pure 4 (.bool (decide (0 < (sgnI u)))) rfl (by kernel_rfl) .none H42 (fun _ => dv_move (T rfl rfl)) ?_
 by_cases hb43 : 0 < (sgnI u)
 · refine aw_pure 5 (.pointer (some ⟨b24, 0, none⟩)) rfl (by kernel_rfl) (.yes (d := 10) rfl rfl (congrArg Value.bool (decide_eq_true hb43))) H42 (fun _ => dv_fieldAddr (a := ⟨b24, 0, none⟩) (a' := ⟨b24, 0, none⟩) fo122_0 (T rfl rfl) rfl) ?_
   refine aw_load 6 (.agg #[.bool nr6, .slice A7 n8 c9]) rfl (by kernel_rfl) (.yes (d := 10) rfl rfl (congrArg Value.bool (decide_eq_true hb43))) H42 (fun _ s => dv_loads (l := [.bool nr6, .slice A7 n8 c9]) agt120 sz120 (T rfl rfl) s rfl) ?_
   refine aw_pure 8 (.pointer (some ⟨b24, 2, none⟩)) rfl (by kernel_rfl) (.yes (d := 10) rfl rfl (congrArg Value.bool (decide_eq_true hb43))) H42 (fun _ => dv_fieldAddr (a := ⟨b24, 0, none⟩) (a' := ⟨b24, 2, none⟩) fo122_1 (T rfl rfl) rfl) ?_
   refine aw_load 9 (.agg #[.bool nr10, .slice A11 n12 c13]) rfl (by kernel_rfl) (.yes (d := 10) rfl rfl (congrArg Value.bool (decide_eq_true hb43))) H42 (fun _ s => dv_loads (l := [.bool nr10, .slice A11 n12 c13]) agt120 sz120 (T rfl rfl) s rfl) ?_
   refine aw_pure 11 (.pointer (some ⟨b24, 4, none⟩)) rfl (by kernel_rfl) (.yes (d := 10) rfl rfl (congrArg Value.bool (decide_eq_true hb43))) H42 (fun _ => dv_fieldAddr (a := ⟨b24, 0, none⟩) (a' := ⟨b24, 4, none⟩) fo122_2 (T rfl rfl) rfl) ?_
   refine aw_load 12 (.agg #[.bool nr14, .slice A15 n16 c17]) rfl (by kernel_rfl) (.yes (d := 10) rfl rfl (congrArg Value.bool (decide_eq_true hb43))) H42 (fun _ s => dv_loads (l := [.bool nr14, .slice A15 n16 c17]) agt120 sz120 (T rfl rfl) s rfl) ?_
   have h44 := ((((h18.ext n26.ext).st s31 n26.blk (by decide)).ext d35.ext).ext e40)
   refine aw_one 7 rfl (by kernel_rfl) (.yes (d := 10) rfl rfl (congrArg Value.bool (decide_eq_true hb43))) (oe_callf (vs := [.agg #[.bool nr6, .slice A7 n8 c9]]) co133 (ar1 (T rfl rfl)) (nsize_num h44 (by first | omega | (simp; done) | (simp; omega))) ?_)
   rintro _ w45 ⟨rfl, e46⟩
   have E47 := below_ext E41 E41.size e46
   have H48 := (e46.blk H42)
   refine ⟨.inr H48, ?_⟩
   have h49 := (((((h19.ext n26.ext).st s31 n26.blk (by decide)).ext d35.ext).ext e40).ext e46)
   refine aw_one 10 rfl (by kernel_rfl) (.yes (d := 10) rfl rfl (congrArg Value.bool (decide_eq_true hb43))) (oe_callf (vs := [.agg #[.bool nr10, .slice A11 n12 c13]]) co133 (ar1 (T rfl rfl)) (nsize_num h49 (by first | omega | (simp; done) | (simp; omega))) ?_)
   rintro _ w50 ⟨rfl, e51⟩
   have E52 := below_ext E47 E47.size e51
   have H53 := (e51.blk H48)
   refine ⟨.inr H53, ?_⟩
   have h54 := (((h38.ext e40).ext e46).ext e51)
   refine aw_one 13 rfl (by kernel_rfl) (.yes (d := 10) rfl rfl (congrArg Value.bool (decide_eq_true hb43))) (oe_callf (vs := [.agg #[.bool nr14, .slice A15 n16 c17]]) co133 (ar1 (T rfl rfl)) (nsize_num h54 (by first | omega | (simp; done) | (simp; omega))) ?_)
   rintro _ w55 ⟨rfl, e56⟩
   have E57 := below_ext E52 E52.size e56
   have H58 := (e56.blk H53)
   refine ⟨.inr H58, ?_⟩
   refine aw_pure 14 (.int .i64 (mx (mx ((nbits (x).natAbs : Int)) ((nbits (y).natAbs : Int))) ((nbits (u).natAbs : Int)))) rfl (by kernel_rfl) (.yes (d := 10) rfl rfl (congrArg Value.bool (decide_eq_true hb43))) H58 (fun _ => dv_max3 (a := (nbits (x).natAbs : Int)) (b := (nbits (y).natAbs : Int)) (c := (nbits (u).natAbs : Int)) (T rfl rfl) (T rfl rfl) (T rfl rfl)) ?_
   refine aw_pure 15 (.bool (decide ((mx (mx ((nbits (x).natAbs : Int)) ((nbits (y).natAbs : Int))) ((nbits (u).natAbs : Int))) ≤ 80))) rfl (by kernel_rfl) (.yes (d := 10) rfl rfl (congrArg Value.bool (decide_eq_true hb43))) H58 (fun _ => dv_leq (a := mx (mx ((nbits (x).natAbs : Int)) ((nbits (y).natAbs : Int))) ((nbits (u).natAbs : Int))) (b := 80) (T rfl rfl) C) ?_
   refine aw_pure 16 (.bool (decide ((mx (mx ((nbits (x).natAbs : Int)) ((nbits (y).natAbs : Int))) ((nbits (u).natAbs : Int))) ≤ 80))) rfl (by kernel_rfl) .none H58 (fun _ => dv_pick_t (T rfl (congrArg Value.bool (decide_eq_true hb43))) (T rfl rfl)) ?_
   refine aw_pure 17 (.bool (decide ((mx (mx ((nbits (x).natAbs : Int)) ((nbits (y).natAbs : Int))) ((nbits (u).natAbs : Int))) ≤ 80))) rfl (by kernel_rfl) .none H58 (fun _ => dv_move (T rfl rfl)) ?_
   by_cases hb59 : (mx (mx ((nbits (x).natAbs : Int)) ((nbits (y).natAbs : Int))) ((nbits (u).natAbs : Int))) ≤ 80
   · refine aw_pure 18 (.pointer (some ⟨b24, 0, none⟩)) rfl (by kernel_rfl) (.yes (d := 23) rfl rfl (congrArg Value.bool (decide_eq_true hb59))) H58 (fun _ => dv_fieldAddr (a := ⟨b24, 0, none⟩) (a' := ⟨b24, 0, none⟩) fo122_0 (T rfl rfl) rfl) ?_
     refine aw_load 19 (.agg #[.bool nr6, .slice A7 n8 c9]) rfl (by kernel_rfl) (.yes (d := 23) rfl rfl (congrArg Value.bool (decide_eq_true hb59))) H58 (fun _ s => dv_loads (l := [.bool nr6, .slice A7 n8 c9]) agt120 sz120 (T rfl rfl) s rfl) ?_
     refine aw_pure 20 (.pointer (some ⟨b24, 2, none⟩)) rfl (by kernel_rfl) (.yes (d := 23) rfl rfl (congrArg Value.bool (decide_eq_true hb59))) H58 (fun _ => dv_fieldAddr (a := ⟨b24, 0, none⟩) (a' := ⟨b24, 2, none⟩) fo122_1 (T rfl rfl) rfl) ?_
     refine aw_load 21 (.agg #[.bool nr10, .slice A11 n12 c13]) rfl (by kernel_rfl) (.yes (d := 23) rfl rfl (congrArg Value.bool (decide_eq_true hb59))) H58 (fun _ s => dv_loads (l := [.bool nr10, .slice A11 n12 c13]) agt120 sz120 (T rfl rfl) s rfl) ?_
     refine aw_pure 22 (.pointer (some ⟨b24, 4, none⟩)) rfl (by kernel_rfl) (.yes (d := 23) rfl rfl (congrArg Value.bool (decide_eq_true hb59))) H58 (fun _ => dv_fieldAddr (a := ⟨b24, 0, none⟩) (a' := ⟨b24, 4, none⟩) fo122_2 (T rfl rfl) rfl) ?_
     refine aw_load 23 (.agg #[.bool nr14, .slice A15 n16 c17]) rfl (by kernel_rfl) (.yes (d := 23) rfl rfl (congrArg Value.bool (decide_eq_true hb59))) H58 (fun _ s => dv_loads (l := [.bool nr14, .slice A15 n16 c17]) agt120 sz120 (T rfl rfl) s rfl) ?_
     refine aw_one 24 rfl (by kernel_rfl) (.yes (d := 23) rfl rfl (congrArg Value.bool (decide_eq_true hb59))) (oe_buildSlice (pv := [(0, .agg #[.bool nr6, .slice A7 n8 c9]), (1, .agg #[.bool nr10, .slice A11 n12 c13]), (2, .agg #[.bool nr14, .slice A15 n16 c17])]) (init := [.bool false, .slice none 0 0, .bool false, .slice none 0 0, .bool false, .slice none 0 0]) (l := [.bool nr6, .slice A7 n8 c9, .bool nr10, .slice A11 n12 c13, .bool nr14, .slice A15 n16 c17]) us197 sz120 rfl rfl zc120 (by kernel_rfl) ⟨rfl, (T rfl rfl), ⟨rfl, (T rfl rfl), ⟨rfl, (T rfl rfl), trivial⟩⟩⟩ rfl ?_)
     intro b60 w61 n62
     have N63 : w.heap.size ≤ b60 := n62.eq ▸ E57.size
     have : b24 < b60 := n62.eq ▸ lt_of_blk H58
     have E64 := below_ext E57 E57.size n62.ext
     have H65 := (n62.ext.blk H58)
     refine ⟨.inr H65, ?_⟩
     have h66 := ((((h44.ext e46).ext e51).ext e56).ext n62.ext)
     have h67 := (((h49.ext e51).ext e56).ext n62.ext)
     have h68 := ((h54.ext e56).ext n62.ext)
     refine aw_one 25 rfl (by kernel_rfl) (.yes (d := 23) rfl rfl (congrArg Value.bool (decide_eq_true hb59))) (oe_callf (vs := [.slice (some ⟨b60, 0, none⟩) 3 3]) co134 (ar1 (T rfl rfl)) (gcd3_ok h66 h67 h68 (by first | decide | omega) (by first | decide | omega) (by first | decide | omega) n62.blk) ?_)
     rintro _ w74 ⟨nr69, A70, n71, c72, rfl, e75, h73⟩
     have E76 := below_ext E64 E64.size e75
     have lh73 := Num.len (by decide) h73
     have H77 := (e75.blk H65)
     refine ⟨.inr H77, ?_⟩
     refine aw_one 26 rfl (by kernel_rfl) (.yes (d := 23) rfl rfl (congrArg Value.bool (decide_eq_true hb59))) (oe_callf (vs := [.int .i64 1]) co92 (ar1 C) (whole_ok  (by omega)) ?_)
     rintro _ w83 ⟨nr78, A79, n80, c81, rfl, e84, h82⟩
     have E85 := below_ext E76 E76.size e84
     have lh82 := Num.len (by decide) h82
     have H86 := (e84.blk H77)
     refine ⟨.inr H86, ?_⟩
     have h87 := (h73.ext e84)
     refine aw_one 27 rfl (by kernel_rfl) (.yes (d := 23) rfl rfl (congrArg Value.bool (decide_eq_true hb59))) (oe_callf (vs := [.agg #[.bool nr69, .slice A70 n71 c72], .agg #[.bool nr78, .slice A79 n80 c81]]) co91 (ar2 (T rfl rfl) (T rfl rfl)) (ncmp_ok h87 h82 (by first | decide | omega) (by first | decide | omega)) ?_)
     rintro _ w88 ⟨rfl, e89⟩
     have E90 := below_ext E85 E85.size e89
     have H91 := (e89.blk H86)
     refine ⟨.inr H91, ?_⟩
     refine aw_pure 28 (.bool (decide ((sgnI ((gI3 x y u) - 1)) = 0))) rfl (by kernel_rfl) (.yes (d := 23) rfl rfl (congrArg Value.bool (decide_eq_true hb59))) H91 (fun _ => dv_eql (a := sgnI ((gI3 x y u) - 1)) (b := 0) (T rfl rfl) C) ?_
     refine aw_pure 29 (.bool (decide ((sgnI ((gI3 x y u) - 1)) = 0))) rfl (by kernel_rfl) .none H91 (fun _ => dv_pick_t (T rfl (congrArg Value.bool (decide_eq_true hb59))) (T rfl rfl)) ?_
     refine aw_last 30 (.bool (decide ((sgnI ((gI3 x y u) - 1)) = 0))) rfl (by kernel_rfl) .none (fun _ => dv_assign (T rfl rfl)) ?_
     refine aw_done (by kernel_rfl) ?_
     refine rk_ret Try.func75 (v := .bool (decide ((sgnI ((gI3 x y u) - 1)) = 0))) (res1 Try.results75 (rv_tmp rfl rfl)) ⟨_, rfl, ?_⟩
     have h1 : sm3 x y u := by first | assumption | exact sm3_iff.2 (mx3.1 ‹_›)
     have h2 : 0 < u := sgnI_gt.1 (by assumption)
     have h3 := @sgnI_zero (gI3 x y u - 1)
     exact ⟨(vb ⟨fun hh => ⟨h2, h1, by have := h3.1 hh; omega⟩, fun hh => h3.2 (by have := hh.2.2; omega)⟩), E90⟩
   · refine aw_no 18 rfl (by kernel_rfl) (d := 23) rfl rfl (congrArg Value.bool (decide_eq_false hb59)) H58 ?_
     refine aw_no 19 rfl (by kernel_rfl) (d := 23) rfl rfl (congrArg Value.bool (decide_eq_false hb59)) H58 ?_
     refine aw_no 20 rfl (by kernel_rfl) (d := 23) rfl rfl (congrArg Value.bool (decide_eq_false hb59)) H58 ?_
     refine aw_no 21 rfl (by kernel_rfl) (d := 23) rfl rfl (congrArg Value.bool (decide_eq_false hb59)) H58 ?_
     refine aw_no 22 rfl (by kernel_rfl) (d := 23) rfl rfl (congrArg Value.bool (decide_eq_false hb59)) H58 ?_
     refine aw_no 23 rfl (by kernel_rfl) (d := 23) rfl rfl (congrArg Value.bool (decide_eq_false hb59)) H58 ?_
     refine aw_no 24 rfl (by kernel_rfl) (d := 23) rfl rfl (congrArg Value.bool (decide_eq_false hb59)) H58 ?_
     refine aw_no 25 rfl (by kernel_rfl) (d := 23) rfl rfl (congrArg Value.bool (decide_eq_false hb59)) H58 ?_
     refine aw_no 26 rfl (by kernel_rfl) (d := 23) rfl rfl (congrArg Value.bool (decide_eq_false hb59)) H58 ?_
     refine aw_no 27 rfl (by kernel_rfl) (d := 23) rfl rfl (congrArg Value.bool (decide_eq_false hb59)) H58 ?_
     refine aw_no 28 rfl (by kernel_rfl) (d := 23) rfl rfl (congrArg Value.bool (decide_eq_false hb59)) H58 ?_
     refine aw_pure 29 (.bool false) rfl (by kernel_rfl) .none H58 (fun _ => dv_pick_f (T rfl (congrArg Value.bool (decide_eq_false hb59))) C) ?_
     refine aw_last 30 (.bool false) rfl (by kernel_rfl) .none (fun _ => dv_assign (T rfl rfl)) ?_
     refine aw_done (by kernel_rfl) ?_
     refine rk_ret Try.func75 (v := .bool false) (res1 Try.results75 (rv_tmp rfl rfl)) ⟨_, rfl, ?_⟩
     exact ⟨(vf (by intro hh; have h1 := sgnI_gt.2 hh.1; have h2 := hh.2.1; first | (exact absurd h2 (by assumption)) | (exact absurd (mx3.2 (sm3_iff.1 h2)) (by assumption)) | contradiction | omega)), E57⟩
 · refine aw_no 5 rfl (by kernel_rfl) (d := 10) rfl rfl (congrArg Value.bool (decide_eq_false hb43)) H42 ?_
   refine aw_no 6 rfl (by kernel_rfl) (d := 10) rfl rfl (congrArg Value.bool (decide_eq_false hb43)) H42 ?_
   refine aw_no 7 rfl (by kernel_rfl) (d := 10) rfl rfl (congrArg Value.bool (decide_eq_false hb43)) H42 ?_
   refine aw_no 8 rfl (by kernel_rfl) (d := 10) rfl rfl (congrArg Value.bool (decide_eq_false hb43)) H42 ?_
   refine aw_no 9 rfl (by kernel_rfl) (d := 10) rfl rfl (congrArg Value.bool (decide_eq_false hb43)) H42 ?_
   refine aw_no 10 rfl (by kernel_rfl) (d := 10) rfl rfl (congrArg Value.bool (decide_eq_false hb43)) H42 ?_
   refine aw_no 11 rfl (by kernel_rfl) (d := 10) rfl rfl (congrArg Value.bool (decide_eq_false hb43)) H42 ?_
   refine aw_no 12 rfl (by kernel_rfl) (d := 10) rfl rfl (congrArg Value.bool (decide_eq_false hb43)) H42 ?_
   refine aw_no 13 rfl (by kernel_rfl) (d := 10) rfl rfl (congrArg Value.bool (decide_eq_false hb43)) H42 ?_
   refine aw_no 14 rfl (by kernel_rfl) (d := 10) rfl rfl (congrArg Value.bool (decide_eq_false hb43)) H42 ?_
   refine aw_no 15 rfl (by kernel_rfl) (d := 10) rfl rfl (congrArg Value.bool (decide_eq_false hb43)) H42 ?_
   refine aw_pure 16 (.bool false) rfl (by kernel_rfl) .none H42 (fun _ => dv_pick_f (T rfl (congrArg Value.bool (decide_eq_false hb43))) C) ?_
   refine aw_pure 17 (.bool false) rfl (by kernel_rfl) .none H42 (fun _ => dv_move (T rfl rfl)) ?_
   refine aw_no 18 rfl (by kernel_rfl) (d := 23) rfl rfl (rfl) H42 ?_
   refine aw_no 19 rfl (by kernel_rfl) (d := 23) rfl rfl (rfl) H42 ?_
   refine aw_no 20 rfl (by kernel_rfl) (d := 23) rfl rfl (rfl) H42 ?_
   refine aw_no 21 rfl (by kernel_rfl) (d := 23) rfl rfl (rfl) H42 ?_
   refine aw_no 22 rfl (by kernel_rfl) (d := 23) rfl rfl (rfl) H42 ?_
   refine aw_no 23 rfl (by kernel_rfl) (d := 23) rfl rfl (rfl) H42 ?_
   refine aw_no 24 rfl (by kernel_rfl) (d := 23) rfl rfl (rfl) H42 ?_
   refine aw_no 25 rfl (by kernel_rfl) (d := 23) rfl rfl (rfl) H42 ?_
   refine aw_no 26 rfl (by kernel_rfl) (d := 23) rfl rfl (rfl) H42 ?_
   refine aw_no 27 rfl (by kernel_rfl) (d := 23) rfl rfl (rfl) H42 ?_
   refine aw_no 28 rfl (by kernel_rfl) (d := 23) rfl rfl (rfl) H42 ?_
   refine aw_pure 29 (.bool false) rfl (by kernel_rfl) .none H42 (fun _ => dv_pick_f (T rfl rfl) C) ?_
   refine aw_last 30 (.bool false) rfl (by kernel_rfl) .none (fun _ => dv_assign (T rfl rfl)) ?_
   refine aw_done (by kernel_rfl) ?_
   refine rk_ret Try.func75 (v := .bool false) (res1 Try.results75 (rv_tmp rfl rfl)) ⟨_, rfl, ?_⟩
   exact ⟨(vf (by intro hh; have h1 := sgnI_gt.2 hh.1; have h2 := hh.2.1; first | (exact absurd h2 (by assumption)) | (exact absurd (mx3.2 (sm3_iff.1 h2)) (by assumption)) | contradiction | omega)), E41⟩
set_option maxHeartbeats 1000000 in
theorem areP2_ok {w : World} {bl : Nat} {x y u p q r : Int} (fx_ : fits x) (fy_ : fits y) (fu_ : fits u) (fp_ : fits p) (fq_ : fits q) (fr_ : fits r) (hL : w.heap[bl]? = some (.cells #[.int .u64 (wv3 x), .int .u64 (wv2 x), .int .u64 (wv1 x), .int .u64 (wv0 x), .int .u64 (wv3 y), .int .u64 (wv2 y), .int .u64 (wv1 y), .int .u64 (wv0 y), .int .u64 (wv3 u), .int .u64 (wv2 u), .int .u64 (wv1 u), .int .u64 (wv0 u), .int .u64 (wv3 p), .int .u64 (wv2 p), .int .u64 (wv1 p), .int .u64 (wv0 p), .int .u64 (wv3 q), .int .u64 (wv2 q), .int .u64 (wv1 q), .int .u64 (wv0 q), .int .u64 (wv3 r), .int .u64 (wv2 r), .int .u64 (wv1 r), .int .u64 (wv0 r)] 37)) : Ct Try.prog 71 [.slice (some ⟨bl, 0, none⟩) 2 2] w fun v w1 => v = .bool (decide (pOk x y u ∧ pOk p q r)) ∧ Ext w w1 := by
 refine ct_run (n := 15) Try.func71 rfl Try.ntmps71 rfl ?_
 have E0 : Below w.heap.size w w := Below.refl _ _
 refine rk_seq ?_
 refine rk_reg ?_
 refine lw_v (.bool false) (dv_assign C) ?_
 refine lw_nil ?_
 refine rk_seq ?_
 refine rk_seq ?_
 refine rk_reg ?_
 refine lw_v (.slice (some ⟨bl, 0, none⟩) 2 2) (dv_move (T rfl rfl)) ?_
 refine lw_v (.int .i64 2) (dv_len (ad := some ⟨bl, 0, none⟩) (l := 2) (c := 2) us156 (T rfl rfl)) ?_
 refine lw_v (.int .i64 0) (dv_move C) ?_
 refine lw_nil ?_
 refine rk_block ?_
 refine rk_unroll ?_
 refine rk_seq ?_
 refine rk_reg ?_
 refine lw_v (.bool (decide (((0 : Int) < 2 : Prop)))) (dv_lss (a := 0) (b := 2) (T rfl rfl) (T rfl rfl)) ?_
 refine lw_nil ?_
 refine rk_seq ?_
 refine rk_ct (T rfl (rfl)) ?_
 refine rk_skip ?_
 refine rk_seq ?_
 refine rk_block ?_
 refine rk_seq ?_
 refine rk_reg ?_
 refine lw_v (.pointer (some ⟨bl, 0, none⟩)) (dv_indexAddr (a := ⟨bl, 0, none⟩) (a' := ⟨bl, 0, none⟩) (l := 2) (c := 2) (j := 0) us156 sz37 (T rfl rfl) (T rfl rfl) (by decide) (by decide) rfl) ?_
 refine lw_v (.agg #[.int .u64 (wv3 x), .int .u64 (wv2 x), .int .u64 (wv1 x), .int .u64 (wv0 x), .int .u64 (wv3 y), .int .u64 (wv2 y), .int .u64 (wv1 y), .int .u64 (wv0 y), .int .u64 (wv3 u), .int .u64 (wv2 u), .int .u64 (wv1 u), .int .u64 (wv0 u)]) (dv_loads (l := [.int .u64 (wv3 x), .int .u64 (wv2 x), .int .u64 (wv1 x), .int .u64 (wv0 x), .int .u64 (wv3 y), .int .u64 (wv2 y), .int .u64 (wv1 y), .int .u64 (wv0 y), .int .u64 (wv3 u), .int .u64 (wv2 u), .int .u64 (wv1 u), .int .u64 (wv0 u)]) agt37 sz37 (T rfl rfl) hL rfl) ?_
 refine lw_e (oe_alloc ze37 ?_)
 intro b1 w2 n3
 have N4 : w.heap.size ≤ b1 := n3.eq ▸ E0.size
 have : bl < b1 := n3.eq ▸ lt_of_blk hL
 have E5 := below_ext E0 E0.size n3.ext
 refine lw_e (oe_store (v := .agg #[.int .u64 (wv3 x), .int .u64 (wv2 x), .int .u64 (wv1 x), .int .u64 (wv0 x), .int .u64 (wv3 y), .int .u64 (wv2 y), .int .u64 (wv1 y), .int .u64 (wv0 y), .int .u64 (wv3 u), .int .u64 (wv2 u), .int .u64 (wv1 u), .int .u64 (wv0 u)]) (vs := [.int .u64 (wv3 x), .int .u64 (wv2 x), .int .u64 (wv1 x), .int .u64 (wv0 x), .int .u64 (wv3 y), .int .u64 (wv2 y), .int .u64 (wv1 y), .int .u64 (wv0 y), .int .u64 (wv3 u), .int .u64 (wv2 u), .int .u64 (wv1 u), .int .u64 (wv0 u)]) (l := [.int .u64 (wv3 x), .int .u64 (wv2 x), .int .u64 (wv1 x), .int .u64 (wv0 x), .int .u64 (wv3 y), .int .u64 (wv2 y), .int .u64 (wv1 y), .int .u64 (wv0 y), .int .u64 (wv3 u), .int .u64 (wv2 u), .int .u64 (wv1 u), .int .u64 (wv0 u)]) (T rfl rfl) (T rfl rfl) sz37 rfl rfl rfl n3.blk rfl ?_)
 intro w6 s7 H8
 have E9 := below_st E5 N4 s7
 refine lw_nil ?_
 refine rk_seq ?_
 refine rk_reg ?_
 refine lw_v (.agg #[.int .u64 (wv3 x), .int .u64 (wv2 x), .int .u64 (wv1 x), .int .u64 (wv0 x), .int .u64 (wv3 y), .int .u64 (wv2 y), .int .u64 (wv1 y), .int .u64 (wv0 y), .int .u64 (wv3 u), .int .u64 (wv2 u), .int .u64 (wv1 u), .int .u64 (wv0 u)]) (dv_loads (l := [.int .u64 (wv3 x), .int .u64 (wv2 x), .int .u64 (wv1 x), .int .u64 (wv0 x), .int .u64 (wv3 y), .int .u64 (wv2 y), .int .u64 (wv1 y), .int .u64 (wv0 y), .int .u64 (wv3 u), .int .u64 (wv2 u), .int .u64 (wv1 u), .int .u64 (wv0 u)]) agt37 sz37 (T rfl rfl) H8 rfl) ?_
 refine lw_e (oe_callf (vs := [.agg #[.int .u64 (wv3 x), .int .u64 (wv2 x), .int .u64 (wv1 x), .int .u64 (wv0 x), .int .u64 (wv3 y), .int .u64 (wv2 y), .int .u64 (wv1 y), .int .u64 (wv0 y), .int .u64 (wv3 u), .int .u64 (wv2 u), .int .u64 (wv1 u), .int .u64 (wv0 u)]]) co75 (ar1 (T rfl rfl)) (iPointOk_ok (x := x) (y := y) (u := u) fx_ fy_ fu_ ) ?_)
 rintro _ w10 ⟨rfl, e11⟩
 have E12 := below_ext E9 E9.size e11
 refine lw_v (.bool (decide (¬ (pOk x y u)))) (dv_notd (p := pOk x y u) (T rfl rfl)) ?_
 refine lw_nil ?_
 by_cases hb13 : pOk x y u
 · refine rk_cf (T rfl (congrArg Value.bool (decide_eq_false (not_not_intro hb13)))) ?_
   refine rk_skip ?_
   refine rk_inBlock ?_
   refine rk_reg ?_
   refine lw_v (.int .i64 1) (dv_add (a := 0) (b := 1) (z := 1) (T rfl rfl) C (by decide)) ?_
   refine lw_v (.int .i64 1) (dv_move (T rfl rfl)) ?_
   refine lw_nil ?_
   refine rk_inLoop ?_
   refine rk_seq ?_
   refine rk_reg ?_
   refine lw_v (.bool (decide (((1 : Int) < 2 : Prop)))) (dv_lss (a := 1) (b := 2) (T rfl rfl) (T rfl rfl)) ?_
   refine lw_nil ?_
   refine rk_seq ?_
   refine rk_ct (T rfl (rfl)) ?_
   refine rk_skip ?_
   refine rk_seq ?_
   refine rk_block ?_
   refine rk_seq ?_
   refine rk_reg ?_
   refine lw_v (.pointer (some ⟨bl, 12, none⟩)) (dv_indexAddr (a := ⟨bl, 0, none⟩) (a' := ⟨bl, 12, none⟩) (l := 2) (c := 2) (j := 1) us156 sz37 (T rfl rfl) (T rfl rfl) (by decide) (by decide) rfl) ?_
   have H14 := (e11.blk (s7.blk (n3.ext.blk hL) (by omega)))
   refine lw_v (.agg #[.int .u64 (wv3 p), .int .u64 (wv2 p), .int .u64 (wv1 p), .int .u64 (wv0 p), .int .u64 (wv3 q), .int .u64 (wv2 q), .int .u64 (wv1 q), .int .u64 (wv0 q), .int .u64 (wv3 r), .int .u64 (wv2 r), .int .u64 (wv1 r), .int .u64 (wv0 r)]) (dv_loads (l := [.int .u64 (wv3 p), .int .u64 (wv2 p), .int .u64 (wv1 p), .int .u64 (wv0 p), .int .u64 (wv3 q), .int .u64 (wv2 q), .int .u64 (wv1 q), .int .u64 (wv0 q), .int .u64 (wv3 r), .int .u64 (wv2 r), .int .u64 (wv1 r), .int .u64 (wv0 r)]) agt37 sz37 (T rfl rfl) H14 rfl) ?_
   refine lw_e (oe_alloc ze37 ?_)
   intro b15 w16 n17
   have N18 : w.heap.size ≤ b15 := n17.eq ▸ E12.size
   have H19 := (e11.blk H8)
   have : b1 < b15 := n17.eq ▸ lt_of_blk H19
   have E20 := below_ext E12 E12.size n17.ext
   refine lw_e (oe_store (v := .agg #[.int .u64 (wv3 p), .int .u64 (wv2 p), .int .u64 (wv1 p), .int .u64 (wv0 p), .int .u64 (wv3 q), .int .u64 (wv2 q), .int .u64 (wv1 q), .int .u64 (wv0 q), .int .u64 (wv3 r), .int .u64 (wv2 r), .int .u64 (wv1 r), .int .u64 (wv0 r)]) (vs := [.int .u64 (wv3 p), .int .u64 (wv2 p), .int .u64 (wv1 p), .int .u64 (wv0 p), .int .u64 (wv3 q), .int .u64 (wv2 q), .int .u64 (wv1 q), .int .u64 (wv0 q), .int .u64 (wv3 r), .int .u64 (wv2 r), .int .u64 (wv1 r), .int .u64 (wv0 r)]) (l := [.int .u64 (wv3 p), .int .u64 (wv2 p), .int .u64 (wv1 p), .int .u64 (wv0 p), .int .u64 (wv3 q), .int .u64 (wv2 q), .int .u64 (wv1 q), .int .u64 (wv0 q), .int .u64 (wv3 r), .int .u64 (wv2 r), .int .u64 (wv1 r), .int .u64 (wv0 r)]) (T rfl rfl) (T rfl rfl) sz37 rfl rfl rfl n17.blk rfl ?_)
   intro w21 s22 H23
   have E24 := below_st E20 N18 s22
   refine lw_nil ?_
   refine rk_seq ?_
   refine rk_reg ?_
   refine lw_v (.agg #[.int .u64 (wv3 p), .int .u64 (wv2 p), .int .u64 (wv1 p), .int .u64 (wv0 p), .int .u64 (wv3 q), .int .u64 (wv2 q), .int .u64 (wv1 q), .int .u64 (wv0 q), .int .u64 (wv3 r), .int .u64 (wv2 r), .int .u64 (wv1 r), .int .u64 (wv0 r)]) (dv_loads (l := [.int .u64 (wv3 p), .int .u64 (wv2 p), .int .u64 (wv1 p), .int .u64 (wv0 p), .int .u64 (wv3 q), .int .u64 (wv2 q), .int .u64 (wv1 q), .int .u64 (wv0 q), .int .u64 (wv3 r), .int .u64 (wv2 r), .int .u64 (wv1 r), .int .u64 (wv0 r)]) agt37 sz37 (T rfl rfl) H23 rfl) ?_
   refine lw_e (oe_callf (vs := [.agg #[.int .u64 (wv3 p), .int .u64 (wv2 p), .int .u64 (wv1 p), .int .u64 (wv0 p), .int .u64 (wv3 q), .int .u64 (wv2 q), .int .u64 (wv1 q), .int .u64 (wv0 q), .int .u64 (wv3 r), .int .u64 (wv2 r), .int .u64 (wv1 r), .int .u64 (wv0 r)]]) co75 (ar1 (T rfl rfl)) (iPointOk_ok (x := p) (y := q) (u := r) fp_ fq_ fr_ ) ?_)
   rintro _ w25 ⟨rfl, e26⟩
   have E27 := below_ext E24 E24.size e26
   refine lw_v (.bool (decide (¬ (pOk p q r)))) (dv_notd (p := pOk p q r) (T rfl rfl)) ?_
   refine lw_nil ?_
   by_cases hb28 : pOk p q r
   · refine rk_cf (T rfl (congrArg Value.bool (decide_eq_false (not_not_intro hb28)))) ?_
     refine rk_skip ?_
     refine rk_inBlock ?_
     refine rk_reg ?_
     refine lw_v (.int .i64 2) (dv_add (a := 1) (b := 1) (z := 2) (T rfl rfl) C (by decide)) ?_
     refine lw_v (.int .i64 2) (dv_move (T rfl rfl)) ?_
     refine lw_nil ?_
     refine rk_inLoop ?_
     refine rk_seq ?_
     refine rk_reg ?_
     refine lw_v (.bool (decide (((2 : Int) < 2 : Prop)))) (dv_lss (a := 2) (b := 2) (T rfl rfl) (T rfl rfl)) ?_
     refine lw_nil ?_
     refine rk_seq ?_
     refine rk_cf (T rfl (rfl)) ?_
     refine rk_exit rfl ?_
     refine rk_seq ?_
     refine rk_reg ?_
     refine lw_v (.bool true) (dv_assign C) ?_
     refine lw_nil ?_
     refine rk_ret Try.func71 (v := .bool true) (res1 Try.results71 (rv_tmp rfl rfl)) ⟨_, rfl, ?_⟩
     exact ⟨(vt (by first | assumption | exact ⟨(by first | assumption | simpa using ‹_›), (by first | assumption | simpa using ‹_›)⟩)), E27⟩
   · refine rk_ct (T rfl (congrArg Value.bool (decide_eq_true hb28))) ?_
     refine rk_seq ?_
     refine rk_reg ?_
     refine lw_v (.bool false) (dv_assign C) ?_
     refine lw_nil ?_
     refine rk_ret Try.func71 (v := .bool false) (res1 Try.results71 (rv_tmp rfl rfl)) ⟨_, rfl, ?_⟩
     exact ⟨(vf (by first | assumption | (intro hh; first | exact absurd hh (by assumption) | exact absurd hh.1 (by assumption) | exact absurd hh.2 (by assumption) | exact absurd hh.2.1 (by assumption) | exact absurd hh.2.2 (by assumption)))), E27⟩
 · refine rk_ct (T rfl (congrArg Value.bool (decide_eq_true hb13))) ?_
   refine rk_seq ?_
   refine rk_reg ?_
   refine lw_v (.bool false) (dv_assign C) ?_
   refine lw_nil ?_
   refine rk_ret Try.func71 (v := .bool false) (res1 Try.results71 (rv_tmp rfl rfl)) ⟨_, rfl, ?_⟩
   exact ⟨(vf (by first | assumption | (intro hh; first | exact absurd hh (by assumption) | exact absurd hh.1 (by assumption) | exact absurd hh.2 (by assumption) | exact absurd hh.2.1 (by assumption) | exact absurd hh.2.2 (by assumption)))), E12⟩
end Go.Proofs.Ytdanhdbanfpghaa.W
set_option linter.unusedVariables false
set_option linter.unusedSimpArgs false
namespace Go.Proofs.Ytdanhdbanfpghaa.W
open Go Go.RowKit Go.Proofs.Ytdanhdbanfpghaa.Fw
attribute [local irreducible] RunK LW AW DV OE Ct
theorem co67 : callOk Try.prog 67 = true := by kernel_rfl
theorem co71 : callOk Try.prog 71 = true := by kernel_rfl
theorem zc37 : zcB Try.prog 37 = some [.int .u64 0, .int .u64 0, .int .u64 0, .int .u64 0, .int .u64 0, .int .u64 0, .int .u64 0, .int .u64 0, .int .u64 0, .int .u64 0, .int .u64 0, .int .u64 0] := by kernel_rfl
end Go.Proofs.Ytdanhdbanfpghaa.W
set_option linter.unusedVariables false
set_option linter.unusedSimpArgs false
namespace Go.Proofs.Ytdanhdbanfpghaa.W
open Go Go.RowKit Go.Proofs.Ytdanhdbanfpghaa.Fw
attribute [local irreducible] RunK LW AW DV OE Ct
theorem agt33 : aggB Try.prog 33 = some true := by kernel_rfl
theorem co21 : callOk Try.prog 21 = true := by kernel_rfl
theorem sz33 : sizeB Try.prog 33 = some 12 := by kernel_rfl
end Go.Proofs.Ytdanhdbanfpghaa.W
set_option linter.unusedVariables false
set_option linter.unusedSimpArgs false
namespace Go.Proofs.Ytdanhdbanfpghaa.W
open Go Go.RowKit Go.Proofs.Ytdanhdbanfpghaa.Fw
attribute [local irreducible] RunK LW AW DV OE Ct
theorem co162 : callOk Try.prog 162 = true := by kernel_rfl
theorem pl37 : placesB Try.prog 37 = some [(0, 4), (4, 4), (8, 4)] := by kernel_rfl
end Go.Proofs.Ytdanhdbanfpghaa.W
set_option linter.unusedVariables false
set_option linter.unusedSimpArgs false
namespace Go.Proofs.Ytdanhdbanfpghaa.W
open Go Go.RowKit Go.Proofs.Ytdanhdbanfpghaa.Fw
attribute [local irreducible] RunK LW AW DV OE Ct
theorem co103 : callOk Try.prog 103 = true := by kernel_rfl
theorem co150 : callOk Try.prog 150 = true := by kernel_rfl
theorem co152 : callOk Try.prog 152 = true := by kernel_rfl
theorem co161 : callOk Try.prog 161 = true := by kernel_rfl
set_option maxHeartbeats 1000000 in
theorem l3Make_ok {w : World}  {na : Bool} {Aa : Option Addr} {la ca : Nat} {x : Int} {sx : Nat} (ha : Num 32 183 .u32 w na Aa la ca x sx) {nb : Bool} {Ab : Option Addr} {lb cb : Nat} {y : Int} {sy : Nat} (hb : Num 32 183 .u32 w nb Ab lb cb y sy) {nm : Bool} {Am : Option Addr} {lm cm : Nat} {u : Int} {su : Nat} (hm : Num 32 183 .u32 w nm Am lm cm u su) (hbsx : sx ≤ 100000) (hbsy : sy ≤ 100000) (hbsu : su ≤ 100000) (hu : u ≠ 0) : Ct Try.prog 97 [.agg #[.bool na, .slice Aa la ca], .agg #[.bool nb, .slice Ab lb cb], .agg #[.bool nm, .slice Am lm cm]] w fun v w1 => ∃ nr0_ A0_ l0_ c0_ nr1_ A1_ l1_ c1_ nr2_ A2_ l2_ c2_, v = .agg #[.bool nr0_, .slice A0_ l0_ c0_, .bool nr1_, .slice A1_ l1_ c1_, .bool nr2_, .slice A2_ l2_ c2_] ∧ Ext w w1 ∧ Num 32 183 .u32 w1 nr0_ A0_ l0_ c0_ (pPt x y u x) (sx) ∧ Num 32 183 .u32 w1 nr1_ A1_ l1_ c1_ (pPt x y u y) (sy) ∧ Num 32 183 .u32 w1 nr2_ A2_ l2_ c2_ (pPt x y u u) (su) := by
 refine ct_run (n := 47) Try.func97 rfl Try.ntmps97 rfl ?_
 have E0 : Below w.heap.size w w := Below.refl _ _
 have lha := Num.len (by decide) ha
 have lhb := Num.len (by decide) hb
 have lhm := Num.len (by decide) hm
 refine rk_seq ?_
 refine rk_reg ?_
 refine lw_e (oe_box (v := .agg #[.bool na, .slice Aa la ca]) (cs := #[.bool na, .slice Aa la ca]) (T rfl rfl) rfl ?_)
 intro b1 w2 n3
 have N4 : w.heap.size ≤ b1 := n3.eq ▸ E0.size
 have E5 := below_ext E0 E0.size n3.ext
 refine lw_e (oe_box (v := .agg #[.bool nb, .slice Ab lb cb]) (cs := #[.bool nb, .slice Ab lb cb]) (T rfl rfl) rfl ?_)
 intro b6 w7 n8
 have N9 : w.heap.size ≤ b6 := n8.eq ▸ E5.size
 have : b1 < b6 := n8.eq ▸ lt_of_blk n3.blk
 have E10 := below_ext E5 E5.size n8.ext
 refine lw_e (oe_box (v := .agg #[.bool nm, .slice Am lm cm]) (cs := #[.bool nm, .slice Am lm cm]) (T rfl rfl) rfl ?_)
 intro b11 w12 n13
 have N14 : w.heap.size ≤ b11 := n13.eq ▸ E10.size
 have : b6 < b11 := n13.eq ▸ lt_of_blk n8.blk
 have E15 := below_ext E10 E10.size n13.ext
 refine lw_e (oe_alloc ze102 ?_)
 intro b16 w17 n18
 have N19 : w.heap.size ≤ b16 := n18.eq ▸ E15.size
 have : b11 < b16 := n18.eq ▸ lt_of_blk n13.blk
 have E20 := below_ext E15 E15.size n18.ext
 refine lw_nil ?_
 refine rk_seq ?_
 refine rk_seq ?_
 refine rk_reg ?_
 refine lw_v (.pointer (some ⟨b11, 0, none⟩)) (dv_fieldAddr (a := ⟨b11, 0, none⟩) (a' := ⟨b11, 0, none⟩) fo100_0 (T rfl rfl) rfl) ?_
 have H21 := (n18.ext.blk n13.blk)
 refine lw_v (.bool nm) (dv_load1 (b := b11) (o := 0) agt4 (T rfl rfl) H21 rfl) ?_
 refine lw_nil ?_
 rcases Bool.eq_false_or_eq_true (nm) with hb22 | hb22
 · refine rk_ct (T rfl (congrArg Value.bool hb22)) ?_
   refine rk_join (fun fr wl => ∃ (nr30 : Bool) (A31 : Option Addr) (n32 : Nat) (c33 : Nat) (nr41 : Bool) (A42 : Option Addr) (n43 : Nat) (c44 : Nat) (nr51 : Bool) (A52 : Option Addr) (n53 : Nat) (c54 : Nat), fr 3 = .pointer (some ⟨b1, 0, none⟩) ∧ fr 4 = .pointer (some ⟨b6, 0, none⟩) ∧ fr 5 = .pointer (some ⟨b11, 0, none⟩) ∧ fr 6 = .pointer (some ⟨b16, 0, none⟩) ∧ Below w.heap.size w wl ∧ wl.heap[b1]? = some (.cells #[.bool nr30, .slice A31 n32 c33] 100) ∧ wl.heap[b6]? = some (.cells #[.bool nr41, .slice A42 n43 c44] 100) ∧ wl.heap[b11]? = some (.cells #[.bool nr51, .slice A52 n53 c54] 100) ∧ wl.heap[b16]? = some (.cells #[.bool false, .slice none 0 0, .bool false, .slice none 0 0, .bool false, .slice none 0 0] 102) ∧ Num 32 183 .u32 wl nr30 A31 n32 c33 (-x) sx ∧ Num 32 183 .u32 wl nr41 A42 n43 c44 (-y) sy ∧ Num 32 183 .u32 wl nr51 A52 n53 c54 (-u) su) ?_ (fun hj76 => ?_)
   · intro fr77 w74 hI75
     obtain ⟨nr30, A31, n32, c33, nr41, A42, n43, c44, nr51, A52, n53, c54, f78, f79, f80, f81, E82, H83, H84, H85, H86, h87, h88, h89⟩ := hI75
     have lh87 := Num.len (by decide) h87
     have lh88 := Num.len (by decide) h88
     have lh89 := Num.len (by decide) h89
     have : w.heap.size ≤ b1 := N4
     have : w.heap.size ≤ b6 := N9
     have : w.heap.size ≤ b11 := N14
     have : w.heap.size ≤ b16 := N19
     refine rk_seq ?_
     have : b1 < w74.heap.size := lt_of_blk H83
     have : b6 < w74.heap.size := lt_of_blk H84
     have : b11 < w74.heap.size := lt_of_blk H85
     have : b16 < w74.heap.size := lt_of_blk H86
     have : w.heap.size ≤ w74.heap.size := E82.size
     refine rk_par2 [fun vq wq_ => vq = .agg #[.bool nr30, .slice A31 n32 c33], fun vq wq_ => vq = .agg #[.bool nr41, .slice A42 n43 c44], fun vq wq_ => ∃ (nr114 : Bool) (A115 : Option Addr) (n116 : Nat) (c117 : Nat), vq = .agg #[.bool nr114, .slice A115 n116 c117] ∧ Num 32 183 .u32 wq_ nr114 A115 n116 c117 (gI (-x) (-y)) ((max sx sy)), fun vq wq_ => vq = .agg #[.bool nr51, .slice A52 n53 c54], fun vq wq_ => ∃ (nr143 : Bool) (A144 : Option Addr) (n145 : Nat) (c146 : Nat), vq = .agg #[.bool nr143, .slice A144 n145 c146] ∧ Num 32 183 .u32 wq_ nr143 A144 n145 c146 (gI (gI (-x) (-y)) (-u)) ((max (max sx sy) su)), fun _ _ => True, fun _ _ => True] [⟨5, 6, 4, 100, #[.bool false, .slice none 0 0]⟩] [100] mo (by kernel_rfl) (by kernel_rfl) ?_ ?_ ?_ ?_ ?_
     · intro e he e2 he2 h; simp only [List.mem_cons, List.not_mem_nil, or_false] at he he2; rcases he with rfl <;> rcases he2 with rfl <;> first | rfl | exact absurd h (by decide)
     · exact ⟨⟨fun v w w2 e h => h, fun v w w2 b cs T fz s hb hT h => h⟩, ⟨fun v w w2 e h => h, fun v w w2 b cs T fz s hb hT h => h⟩, ⟨fun v w w2 e ⟨nr114, A115, n116, c117, hv, h0_⟩ => ⟨nr114, A115, n116, c117, hv, h0_.ext e⟩, fun v w w2 b cs T fz s hb hT ⟨nr114, A115, n116, c117, hv, h0_⟩ => ⟨nr114, A115, n116, c117, hv, h0_.st s hb (ts_ne hT (by decide))⟩⟩, ⟨fun v w w2 e h => h, fun v w w2 b cs T fz s hb hT h => h⟩, ⟨fun v w w2 e ⟨nr143, A144, n145, c146, hv, h0_⟩ => ⟨nr143, A144, n145, c146, hv, h0_.ext e⟩, fun v w w2 b cs T fz s hb hT ⟨nr143, A144, n145, c146, hv, h0_⟩ => ⟨nr143, A144, n145, c146, hv, h0_.st s hb (ts_ne hT (by decide))⟩⟩, ⟨fun v w w2 e h => h, fun v w w2 b cs T fz s hb hT h => h⟩, ⟨fun v w w2 e h => h, fun v w w2 b cs T fz s hb hT h => h⟩, trivial⟩
     · refine ⟨?_, ?_, ?_, ?_, ?_, ?_, ?_, trivial⟩
       · refine .inr ⟨by kernel_rfl, ?_⟩
         intro fr91 w90 e92 hF93 hD94
         have E95 := below_ext E82 E82.size e92
         have H96 := (e92.blk H83)
         exact DV.oe (dv_loads (l := [.bool nr30, .slice A31 n32 c33]) agt100 sz100 (T rfl ((hF93 3 (by kernel_rfl)).trans f78)) H96 rfl) ⟨Below.refl _ _, rfl⟩
       · refine .inr ⟨by kernel_rfl, ?_⟩
         intro fr98 w97 e99 hF100 hD101
         have E102 := below_ext E82 E82.size e99
         have H103 := (e99.blk H84)
         exact DV.oe (dv_loads (l := [.bool nr41, .slice A42 n43 c44]) agt100 sz100 (T rfl ((hF100 4 (by kernel_rfl)).trans f79)) H103 rfl) ⟨Below.refl _ _, rfl⟩
       · refine .inr ⟨by kernel_rfl, ?_⟩
         intro fr105 w104 e106 hF107 hD108
         have E109 := below_ext E82 E82.size e106
         have hv110 : fr105 16 = .agg #[.bool nr30, .slice A31 n32 c33] := hD108 0 _ (by kernel_rfl) rfl (by kernel_rfl)
         have hv111 : fr105 17 = .agg #[.bool nr41, .slice A42 n43 c44] := hD108 1 _ (by kernel_rfl) rfl (by kernel_rfl)
         have h112 := (h87.ext e106)
         have h113 := (h88.ext e106)
         refine id (oe_callf (vs := [.agg #[.bool nr30, .slice A31 n32 c33], .agg #[.bool nr41, .slice A42 n43 c44]]) co129 (ar2 (T rfl hv110) (T rfl hv111)) (l1Gcd_ok h112 h113 (by first | decide | omega) (by first | decide | omega)) ?_)
         rintro _ w119 ⟨nr114, A115, n116, c117, rfl, e120, h118⟩
         have E121 := below_ext E109 E109.size e120
         have lh118 := Num.len (by decide) h118
         exact ⟨e120, nr114, A115, n116, c117, rfl, h118⟩
       · refine .inr ⟨by kernel_rfl, ?_⟩
         intro fr123 w122 e124 hF125 hD126
         have E127 := below_ext E82 E82.size e124
         have H128 := (e124.blk H85)
         exact DV.oe (dv_loads (l := [.bool nr51, .slice A52 n53 c54]) agt100 sz100 (T rfl ((hF125 5 (by kernel_rfl)).trans f80)) H128 rfl) ⟨Below.refl _ _, rfl⟩
       · refine .inr ⟨by kernel_rfl, ?_⟩
         intro fr130 w129 e131 hF132 hD133
         have E134 := below_ext E82 E82.size e131
         obtain ⟨nr135, A136, n137, c138, hv139, hp140⟩ : ∃ (nr114 : Bool) (A115 : Option Addr) (n116 : Nat) (c117 : Nat), fr130 18 = .agg #[.bool nr114, .slice A115 n116 c117] ∧ Num 32 183 .u32 w129 nr114 A115 n116 c117 (gI (-x) (-y)) ((max sx sy)) := hD133 2 _ (by kernel_rfl) rfl (by kernel_rfl)
         have lhp140 := Num.len (by decide) hp140
         have hv141 : fr130 19 = .agg #[.bool nr51, .slice A52 n53 c54] := hD133 3 _ (by kernel_rfl) rfl (by kernel_rfl)
         have h142 := (h89.ext e131)
         refine id (oe_callf (vs := [.agg #[.bool nr135, .slice A136 n137 c138], .agg #[.bool nr51, .slice A52 n53 c54]]) co129 (ar2 (T rfl hv139) (T rfl hv141)) (l1Gcd_ok hp140 h142 (by first | decide | omega) (by first | decide | omega)) ?_)
         rintro _ w148 ⟨nr143, A144, n145, c146, rfl, e149, h147⟩
         have E150 := below_ext E134 E134.size e149
         have lh147 := Num.len (by decide) h147
         exact ⟨e149, nr143, A144, n145, c146, rfl, h147⟩
       · exact .inl (.inr ⟨by kernel_rfl, fun _ _ => trivial⟩)
       · exact .inl (.inl (by kernel_rfl))
     · refine ⟨⟨⟨_, rfl, fun _ _ => oe_alloc ze100 fun b w hn => ⟨b, rfl, hn⟩⟩, ⟨_, rfl, ?_⟩⟩, trivial⟩
       · intro fr152 w151 b156 e153 hF154 hD155 hA157 hB158
         have E159 := below_ext E82 E82.size e153
         obtain ⟨nr160, A161, n162, c163, hv164, hp165⟩ : ∃ (nr143 : Bool) (A144 : Option Addr) (n145 : Nat) (c146 : Nat), fr152 20 = .agg #[.bool nr143, .slice A144 n145 c146] ∧ Num 32 183 .u32 w151 nr143 A144 n145 c146 (gI (gI (-x) (-y)) (-u)) ((max (max sx sy) su)) := hD155 4 _ (by kernel_rfl) rfl (by kernel_rfl)
         have lhp165 := Num.len (by decide) hp165
         refine id (oe_store (v := .agg #[.bool nr160, .slice A161 n162 c163]) (vs := [.bool nr160, .slice A161 n162 c163]) (l := [.bool nr160, .slice A161 n162 c163]) (T rfl hA157) (T rfl hv164) sz100 rfl rfl rfl hB158 rfl ?_)
         intro w166 s167 H168
         exact ⟨s167, H168.trans (congrArg (fun v : Value => some (Obj.cells v.cells 100)) (show fr152 20 = _ from hv164).symm)⟩
     intro fr171 w170 e172 hF173 hP174 hM175 hN176
     have E177 := below_ext E82 E82.size e172
     obtain ⟨_, _, _, _, p178, _, _, _⟩ := hP174
     obtain ⟨nr179, A180, n181, c182, hv183, hp184⟩ : ∃ (nr143 : Bool) (A144 : Option Addr) (n145 : Nat) (c146 : Nat), fr171 20 = .agg #[.bool nr143, .slice A144 n145 c146] ∧ Num 32 183 .u32 w170 nr143 A144 n145 c146 (gI (gI (-x) (-y)) (-u)) ((max (max sx sy) su)) := p178.resolve_left (nst (by kernel_rfl))
     have lhp184 := Num.len (by decide) hp184
     obtain ⟨⟨b185, hA186, hB187, hC188⟩, _⟩ := hM175
     have H189 : w170.heap[b185]? = some (.cells #[.bool nr179, .slice A180 n181 c182] 100) := hC188.trans (congrArg (fun v : Value => some (Obj.cells v.cells 100)) hv183)
     have N190 : w.heap.size ≤ b185 := by omega
     refine rk_seq ?_
     refine rk_seq ?_
     refine rk_any (fun w => w.heap[b185]? = some (.cells #[.bool nr179, .slice A180 n181 c182] 100)) [] mo ?_
     intro w191 d192
     have E193 := below_ext E177 E177.size d192.ext
     have H194 := (d192.ext.blk H189)
     refine aw_load 0 (.agg #[.bool nr179, .slice A180 n181 c182]) rfl (by kernel_rfl) .none H194 (fun _ s => dv_loads (l := [.bool nr179, .slice A180 n181 c182]) agt100 sz100 (T rfl hA186) s rfl) ?_
     refine aw_one 1 rfl (by kernel_rfl) .none (oe_callf (vs := [.int .i64 1]) co100 (ar1 C) (l1Int_ok  (by omega)) ?_)
     rintro _ w200 ⟨nr195, A196, n197, c198, rfl, e201, h199⟩
     have E202 := below_ext E193 E193.size e201
     have lh199 := Num.len (by decide) h199
     have H203 := (e201.blk H194)
     refine ⟨.inr H203, ?_⟩
     have h204 := ((hp184.ext d192.ext).ext e201)
     refine aw_one 2 rfl (by kernel_rfl) .none (oe_callf (vs := [.agg #[.bool nr179, .slice A180 n181 c182], .agg #[.bool nr195, .slice A196 n197 c198]]) co128 (ar2 (T rfl rfl) (T rfl rfl)) (l1Cmp_ok h204 h199 (by first | decide | omega) (by first | decide | omega)) ?_)
     rintro _ w205 ⟨rfl, e206⟩
     have E207 := below_ext E202 E202.size e206
     have H208 := (e206.blk H203)
     refine ⟨.inr H208, ?_⟩
     refine aw_pure 3 (.bool (decide ((sgnI ((gI (gI (-x) (-y)) (-u)) - 1)) ≠ 0))) rfl (by kernel_rfl) .none H208 (fun _ => dv_neq (a := sgnI ((gI (gI (-x) (-y)) (-u)) - 1)) (b := 0) (T rfl rfl) C) ?_
     refine aw_done (by kernel_rfl) ?_
     by_cases hb209 : (sgnI ((gI (gI (-x) (-y)) (-u)) - 1)) ≠ 0
     · refine rk_ct (T rfl (congrArg Value.bool (decide_eq_true hb209))) ?_
       refine rk_seq ?_
       refine rk_reg ?_
       have H210 := (e206.blk (e201.blk (d192.ext.blk (e172.blk H83))))
       refine lw_v (.agg #[.bool nr30, .slice A31 n32 c33]) (dv_loads (l := [.bool nr30, .slice A31 n32 c33]) agt100 sz100 (T rfl ((hF173 3 rfl).trans f78)) H210 rfl) ?_
       refine lw_v (.agg #[.bool nr179, .slice A180 n181 c182]) (dv_loads (l := [.bool nr179, .slice A180 n181 c182]) agt100 sz100 (T rfl hA186) H208 rfl) ?_
       have h211 := ((((h87.ext e172).ext d192.ext).ext e201).ext e206)
       have h212 := (h204.ext e206)
       refine lw_e (oe_callf (vs := [.agg #[.bool nr30, .slice A31 n32 c33], .agg #[.bool nr179, .slice A180 n181 c182]]) co152 (ar2 (T rfl rfl) (T rfl rfl)) (l1Div_ok h211 h212 (Int.ne_of_gt (gI_pos (Int.neg_ne_zero.2 hu))) (by first | decide | omega) (by first | decide | omega)) ?_)
       rintro _ w223 ⟨nr213, A214, n215, c216, nr217, A218, n219, c220, rfl, e224, h221, h222⟩
       have E225 := below_ext E207 E207.size e224
       have lh221 := Num.len (by decide) h221
       have lh222 := Num.len (by decide) h222
       refine lw_v (.tuple #[.agg #[.bool nr213, .slice A214 n215 c216], .agg #[.bool nr217, .slice A218 n219 c220]]) (dv_move (T rfl rfl)) ?_
       refine lw_v (.agg #[.bool nr213, .slice A214 n215 c216]) (dv_extract (vs := #[.agg #[.bool nr213, .slice A214 n215 c216], .agg #[.bool nr217, .slice A218 n219 c220]]) (T rfl rfl) rfl) ?_
       refine lw_v (.agg #[.bool nr217, .slice A218 n219 c220]) (dv_extract (vs := #[.agg #[.bool nr213, .slice A214 n215 c216], .agg #[.bool nr217, .slice A218 n219 c220]]) (T rfl rfl) rfl) ?_
       have H226 := (e224.blk H210)
       refine lw_e (oe_store (v := .agg #[.bool nr213, .slice A214 n215 c216]) (vs := [.bool nr213, .slice A214 n215 c216]) (l := [.bool nr213, .slice A214 n215 c216]) (T rfl ((hF173 3 rfl).trans f78)) (T rfl rfl) sz100 rfl rfl rfl H226 rfl ?_)
       intro w227 s228 H229
       have E230 := below_st E225 N4 s228
       refine lw_nil ?_
       refine rk_seq ?_
       refine rk_reg ?_
       have H231 := (s228.blk (e224.blk (e206.blk (e201.blk (d192.ext.blk (e172.blk H84))))) (by omega))
       refine lw_v (.agg #[.bool nr41, .slice A42 n43 c44]) (dv_loads (l := [.bool nr41, .slice A42 n43 c44]) agt100 sz100 (T rfl ((hF173 4 rfl).trans f79)) H231 rfl) ?_
       have H232 := (s228.blk (e224.blk H208) (by omega))
       refine lw_v (.agg #[.bool nr179, .slice A180 n181 c182]) (dv_loads (l := [.bool nr179, .slice A180 n181 c182]) agt100 sz100 (T rfl hA186) H232 rfl) ?_
       have h233 := ((((((h88.ext e172).ext d192.ext).ext e201).ext e206).ext e224).st s228 H226 (by decide))
       have h234 := ((h212.ext e224).st s228 H226 (by decide))
       refine lw_e (oe_callf (vs := [.agg #[.bool nr41, .slice A42 n43 c44], .agg #[.bool nr179, .slice A180 n181 c182]]) co152 (ar2 (T rfl rfl) (T rfl rfl)) (l1Div_ok h233 h234 (Int.ne_of_gt (gI_pos (Int.neg_ne_zero.2 hu))) (by first | decide | omega) (by first | decide | omega)) ?_)
       rintro _ w245 ⟨nr235, A236, n237, c238, nr239, A240, n241, c242, rfl, e246, h243, h244⟩
       have E247 := below_ext E230 E230.size e246
       have lh243 := Num.len (by decide) h243
       have lh244 := Num.len (by decide) h244
       refine lw_v (.tuple #[.agg #[.bool nr235, .slice A236 n237 c238], .agg #[.bool nr239, .slice A240 n241 c242]]) (dv_move (T rfl rfl)) ?_
       refine lw_v (.agg #[.bool nr235, .slice A236 n237 c238]) (dv_extract (vs := #[.agg #[.bool nr235, .slice A236 n237 c238], .agg #[.bool nr239, .slice A240 n241 c242]]) (T rfl rfl) rfl) ?_
       refine lw_v (.agg #[.bool nr239, .slice A240 n241 c242]) (dv_extract (vs := #[.agg #[.bool nr235, .slice A236 n237 c238], .agg #[.bool nr239, .slice A240 n241 c242]]) (T rfl rfl) rfl) ?_
       have H248 := (e246.blk H231)
       refine lw_e (oe_store (v := .agg #[.bool nr235, .slice A236 n237 c238]) (vs := [.bool nr235, .slice A236 n237 c238]) (l := [.bool nr235, .slice A236 n237 c238]) (T rfl ((hF173 4 rfl).trans f79)) (T rfl rfl) sz100 rfl rfl rfl H248 rfl ?_)
       intro w249 s250 H251
       have E252 := below_st E247 N9 s250
       refine lw_nil ?_
       refine rk_reg ?_
       have H253 := (s250.blk (e246.blk (s228.blk (e224.blk (e206.blk (e201.blk (d192.ext.blk (e172.blk H85))))) (by omega))) (by omega))
       refine lw_v (.agg #[.bool nr51, .slice A52 n53 c54]) (dv_loads (l := [.bool nr51, .slice A52 n53 c54]) agt100 sz100 (T rfl ((hF173 5 rfl).trans f80)) H253 rfl) ?_
       have H254 := (s250.blk (e246.blk H232) (by omega))
       refine lw_v (.agg #[.bool nr179, .slice A180 n181 c182]) (dv_loads (l := [.bool nr179, .slice A180 n181 c182]) agt100 sz100 (T rfl hA186) H254 rfl) ?_
       have h255 := ((((((((h89.ext e172).ext d192.ext).ext e201).ext e206).ext e224).st s228 H226 (by decide)).ext e246).st s250 H248 (by decide))
       have h256 := ((h234.ext e246).st s250 H248 (by decide))
       refine lw_e (oe_callf (vs := [.agg #[.bool nr51, .slice A52 n53 c54], .agg #[.bool nr179, .slice A180 n181 c182]]) co152 (ar2 (T rfl rfl) (T rfl rfl)) (l1Div_ok h255 h256 (Int.ne_of_gt (gI_pos (Int.neg_ne_zero.2 hu))) (by first | decide | omega) (by first | decide | omega)) ?_)
       rintro _ w267 ⟨nr257, A258, n259, c260, nr261, A262, n263, c264, rfl, e268, h265, h266⟩
       have E269 := below_ext E252 E252.size e268
       have lh265 := Num.len (by decide) h265
       have lh266 := Num.len (by decide) h266
       refine lw_v (.tuple #[.agg #[.bool nr257, .slice A258 n259 c260], .agg #[.bool nr261, .slice A262 n263 c264]]) (dv_move (T rfl rfl)) ?_
       refine lw_v (.agg #[.bool nr257, .slice A258 n259 c260]) (dv_extract (vs := #[.agg #[.bool nr257, .slice A258 n259 c260], .agg #[.bool nr261, .slice A262 n263 c264]]) (T rfl rfl) rfl) ?_
       refine lw_v (.agg #[.bool nr261, .slice A262 n263 c264]) (dv_extract (vs := #[.agg #[.bool nr257, .slice A258 n259 c260], .agg #[.bool nr261, .slice A262 n263 c264]]) (T rfl rfl) rfl) ?_
       have H270 := (e268.blk H253)
       refine lw_e (oe_store (v := .agg #[.bool nr257, .slice A258 n259 c260]) (vs := [.bool nr257, .slice A258 n259 c260]) (l := [.bool nr257, .slice A258 n259 c260]) (T rfl ((hF173 5 rfl).trans f80)) (T rfl rfl) sz100 rfl rfl rfl H270 rfl ?_)
       intro w271 s272 H273
       have E274 := below_st E269 N14 s272
       refine lw_nil ?_
       refine rk_seq ?_
       refine rk_reg ?_
       have H275 := (s272.blk (e268.blk (s250.blk (e246.blk H229) (by omega))) (by omega))
       refine lw_v (.agg #[.bool nr213, .slice A214 n215 c216]) (dv_loads (l := [.bool nr213, .slice A214 n215 c216]) agt100 sz100 (T rfl ((hF173 3 rfl).trans f78)) H275 rfl) ?_
       have H276 := (s272.blk (e268.blk H251) (by omega))
       refine lw_v (.agg #[.bool nr235, .slice A236 n237 c238]) (dv_loads (l := [.bool nr235, .slice A236 n237 c238]) agt100 sz100 (T rfl ((hF173 4 rfl).trans f79)) H276 rfl) ?_
       refine lw_v (.agg #[.bool nr257, .slice A258 n259 c260]) (dv_loads (l := [.bool nr257, .slice A258 n259 c260]) agt100 sz100 (T rfl ((hF173 5 rfl).trans f80)) H273 rfl) ?_
       refine lw_v (.agg #[.bool nr213, .slice A214 n215 c216, .bool nr235, .slice A236 n237 c238, .bool nr257, .slice A258 n259 c260]) (dv_build (pv := [(0, .agg #[.bool nr213, .slice A214 n215 c216]), (1, .agg #[.bool nr235, .slice A236 n237 c238]), (2, .agg #[.bool nr257, .slice A258 n259 c260])]) (l := [.bool nr213, .slice A214 n215 c216, .bool nr235, .slice A236 n237 c238, .bool nr257, .slice A258 n259 c260]) zc102 pl102 ⟨rfl, (T rfl rfl), ⟨rfl, (T rfl rfl), ⟨rfl, (T rfl rfl), trivial⟩⟩⟩ rfl) ?_
       have H277 := (s272.blk (e268.blk (s250.blk (e246.blk (s228.blk (e224.blk (e206.blk (e201.blk (d192.ext.blk (e172.blk H86))))) (by omega))) (by omega))) (by omega))
       refine lw_e (oe_store (v := .agg #[.bool nr213, .slice A214 n215 c216, .bool nr235, .slice A236 n237 c238, .bool nr257, .slice A258 n259 c260]) (vs := [.bool nr213, .slice A214 n215 c216, .bool nr235, .slice A236 n237 c238, .bool nr257, .slice A258 n259 c260]) (l := [.bool nr213, .slice A214 n215 c216, .bool nr235, .slice A236 n237 c238, .bool nr257, .slice A258 n259 c260]) (T rfl ((hF173 6 rfl).trans f81)) (T rfl rfl) sz102 rfl rfl rfl H277 rfl ?_)
       intro w278 s279 H280
       have E281 := below_st E274 N19 s279
       refine lw_nil ?_
       refine rk_ret Try.func97 (v := .agg #[.bool nr213, .slice A214 n215 c216, .bool nr235, .slice A236 n237 c238, .bool nr257, .slice A258 n259 c260]) (res1 Try.results97 (rv_cells (l := [.bool nr213, .slice A214 n215 c216, .bool nr235, .slice A236 n237 c238, .bool nr257, .slice A258 n259 c260]) agt102 sz102 rfl ((hF173 6 rfl).trans f81) H280 rfl)) ⟨_, rfl, ?_⟩
       have h282 := ((((((h221.st s228 H226 (by decide)).ext e246).st s250 H248 (by decide)).ext e268).st s272 H270 (by decide)).st s279 H277 (by decide))
       have h283 := ((((h243.st s250 H248 (by decide)).ext e268).st s272 H270 (by decide)).st s279 H277 (by decide))
       have h284 := ((h265.st s272 H270 (by decide)).st s279 H277 (by decide))
       exact ⟨_, _, _, _, _, _, _, _, _, _, _, _, rfl, E281, h282.to ((by have hgn : gI (gI (-x) (-y)) (-u) = gI3 x y u := (by unfold gI3; rw [gI_neg, gI_negr]); unfold pPt; rw [if_pos (hm.neg_iff.1 (by assumption)), hgn])) (Nat.le_refl _), h283.to ((by have hgn : gI (gI (-x) (-y)) (-u) = gI3 x y u := (by unfold gI3; rw [gI_neg, gI_negr]); unfold pPt; rw [if_pos (hm.neg_iff.1 (by assumption)), hgn])) (Nat.le_refl _), h284.to ((by have hgn : gI (gI (-x) (-y)) (-u) = gI3 x y u := (by unfold gI3; rw [gI_neg, gI_negr]); unfold pPt; rw [if_pos (hm.neg_iff.1 (by assumption)), hgn])) (Nat.le_refl _)⟩
     · refine rk_cf (T rfl (congrArg Value.bool (decide_eq_false hb209))) ?_
       refine rk_skip ?_
       refine rk_seq ?_
       refine rk_reg ?_
       have H285 := (e206.blk (e201.blk (d192.ext.blk (e172.blk H83))))
       refine lw_v (.agg #[.bool nr30, .slice A31 n32 c33]) (dv_loads (l := [.bool nr30, .slice A31 n32 c33]) agt100 sz100 (T rfl ((hF173 3 rfl).trans f78)) H285 rfl) ?_
       have H286 := (e206.blk (e201.blk (d192.ext.blk (e172.blk H84))))
       refine lw_v (.agg #[.bool nr41, .slice A42 n43 c44]) (dv_loads (l := [.bool nr41, .slice A42 n43 c44]) agt100 sz100 (T rfl ((hF173 4 rfl).trans f79)) H286 rfl) ?_
       have H287 := (e206.blk (e201.blk (d192.ext.blk (e172.blk H85))))
       refine lw_v (.agg #[.bool nr51, .slice A52 n53 c54]) (dv_loads (l := [.bool nr51, .slice A52 n53 c54]) agt100 sz100 (T rfl ((hF173 5 rfl).trans f80)) H287 rfl) ?_
       refine lw_v (.agg #[.bool nr30, .slice A31 n32 c33, .bool nr41, .slice A42 n43 c44, .bool nr51, .slice A52 n53 c54]) (dv_build (pv := [(0, .agg #[.bool nr30, .slice A31 n32 c33]), (1, .agg #[.bool nr41, .slice A42 n43 c44]), (2, .agg #[.bool nr51, .slice A52 n53 c54])]) (l := [.bool nr30, .slice A31 n32 c33, .bool nr41, .slice A42 n43 c44, .bool nr51, .slice A52 n53 c54]) zc102 pl102 ⟨rfl, (T rfl rfl), ⟨rfl, (T rfl rfl), ⟨rfl, (T rfl rfl), trivial⟩⟩⟩ rfl) ?_
       have H288 := (e206.blk (e201.blk (d192.ext.blk (e172.blk H86))))
       refine lw_e (oe_store (v := .agg #[.bool nr30, .slice A31 n32 c33, .bool nr41, .slice A42 n43 c44, .bool nr51, .slice A52 n53 c54]) (vs := [.bool nr30, .slice A31 n32 c33, .bool nr41, .slice A42 n43 c44, .bool nr51, .slice A52 n53 c54]) (l := [.bool nr30, .slice A31 n32 c33, .bool nr41, .slice A42 n43 c44, .bool nr51, .slice A52 n53 c54]) (T rfl ((hF173 6 rfl).trans f81)) (T rfl rfl) sz102 rfl rfl rfl H288 rfl ?_)
       intro w289 s290 H291
       have E292 := below_st E207 N19 s290
       refine lw_nil ?_
       refine rk_ret Try.func97 (v := .agg #[.bool nr30, .slice A31 n32 c33, .bool nr41, .slice A42 n43 c44, .bool nr51, .slice A52 n53 c54]) (res1 Try.results97 (rv_cells (l := [.bool nr30, .slice A31 n32 c33, .bool nr41, .slice A42 n43 c44, .bool nr51, .slice A52 n53 c54]) agt102 sz102 rfl ((hF173 6 rfl).trans f81) H291 rfl)) ⟨_, rfl, ?_⟩
       have h293 := (((((h87.ext e172).ext d192.ext).ext e201).ext e206).st s290 H288 (by decide))
       have h294 := (((((h88.ext e172).ext d192.ext).ext e201).ext e206).st s290 H288 (by decide))
       have h295 := (((((h89.ext e172).ext d192.ext).ext e201).ext e206).st s290 H288 (by decide))
       exact ⟨_, _, _, _, _, _, _, _, _, _, _, _, rfl, E292, h293.to ((by have hgn : gI (gI (-x) (-y)) (-u) = gI3 x y u := (by unfold gI3; rw [gI_neg, gI_negr]); have h1 : gI (gI (-x) (-y)) (-u) = 1 := (by have := @sgnI_zero (gI (gI (-x) (-y)) (-u) - 1); omega); unfold pPt; rw [if_pos (hm.neg_iff.1 (by assumption)), ← hgn, h1, Int.ediv_one])) (Nat.le_refl _), h294.to ((by have hgn : gI (gI (-x) (-y)) (-u) = gI3 x y u := (by unfold gI3; rw [gI_neg, gI_negr]); have h1 : gI (gI (-x) (-y)) (-u) = 1 := (by have := @sgnI_zero (gI (gI (-x) (-y)) (-u) - 1); omega); unfold pPt; rw [if_pos (hm.neg_iff.1 (by assumption)), ← hgn, h1, Int.ediv_one])) (Nat.le_refl _), h295.to ((by have hgn : gI (gI (-x) (-y)) (-u) = gI3 x y u := (by unfold gI3; rw [gI_neg, gI_negr]); have h1 : gI (gI (-x) (-y)) (-u) = 1 := (by have := @sgnI_zero (gI (gI (-x) (-y)) (-u) - 1); omega); unfold pPt; rw [if_pos (hm.neg_iff.1 (by assumption)), ← hgn, h1, Int.ediv_one])) (Nat.le_refl _)⟩
   · refine rk_any (fun _ => True) [] mo ?_
     intro w296 d297
     have E298 := below_ext E20 E20.size d297.ext
     have H299 := (d297.ext.blk (n18.ext.blk (n13.ext.blk (n8.ext.blk n3.blk))))
     have H300 := (d297.ext.blk (n18.ext.blk (n13.ext.blk n8.blk)))
     have H301 := (d297.ext.blk H21)
     refine aw_three 0 2 4 rfl rfl rfl (by kernel_rfl) .none .none .none ?_ ?_ ?_
     · refine id (DV.oe (dv_loads (l := [.bool na, .slice Aa la ca]) agt100 sz100 (T rfl rfl) H299 rfl) ?_)
       refine ⟨.inr trivial, ?_⟩
       refine aw_three 1 2 4 rfl rfl rfl (by kernel_rfl) .none .none .none ?_ ?_ ?_
       · have h302 := (((((ha.ext n3.ext).ext n8.ext).ext n13.ext).ext n18.ext).ext d297.ext)
         refine id (oe_callf (vs := [.agg #[.bool na, .slice Aa la ca]]) co151 (ar1 (T rfl rfl)) (l1Neg_ok h302 ) ?_)
         rintro _ w308 ⟨nr303, A304, n305, c306, rfl, e309, h307⟩
         have E310 := below_ext E298 E298.size e309
         have lh307 := Num.len (by decide) h307
         refine ⟨.inr trivial, ?_⟩
         have H311 := (e309.blk H300)
         have H312 := (e309.blk H301)
         refine aw_two 2 4 rfl rfl (by kernel_rfl) .none .none ?_ ?_
         · refine id (DV.oe (dv_loads (l := [.bool nb, .slice Ab lb cb]) agt100 sz100 (T rfl rfl) H311 rfl) ?_)
           refine ⟨.inr trivial, ?_⟩
           refine aw_two 3 4 rfl rfl (by kernel_rfl) .none .none ?_ ?_
           · have h313 := ((((((hb.ext n3.ext).ext n8.ext).ext n13.ext).ext n18.ext).ext d297.ext).ext e309)
             refine id (oe_callf (vs := [.agg #[.bool nb, .slice Ab lb cb]]) co151 (ar1 (T rfl rfl)) (l1Neg_ok h313 ) ?_)
             rintro _ w319 ⟨nr314, A315, n316, c317, rfl, e320, h318⟩
             have E321 := below_ext E310 E310.size e320
             have lh318 := Num.len (by decide) h318
             refine ⟨.inr trivial, ?_⟩
             have H322 := (e320.blk H312)
             refine aw_one 4 rfl (by kernel_rfl) .none (DV.oe (dv_loads (l := [.bool nm, .slice Am lm cm]) agt100 sz100 (T rfl rfl) H322 rfl) ?_)
             refine ⟨.inr trivial, ?_⟩
             have h323 := (((((((hm.ext n3.ext).ext n8.ext).ext n13.ext).ext n18.ext).ext d297.ext).ext e309).ext e320)
             refine aw_one 5 rfl (by kernel_rfl) .none (oe_callf (vs := [.agg #[.bool nm, .slice Am lm cm]]) co151 (ar1 (T rfl rfl)) (l1Neg_ok h323 ) ?_)
             rintro _ w329 ⟨nr324, A325, n326, c327, rfl, e330, h328⟩
             have E331 := below_ext E321 E321.size e330
             have lh328 := Num.len (by decide) h328
             refine ⟨.inr trivial, ?_⟩
             have H332 := (e330.blk (e320.blk (e309.blk H299)))
             refine aw_one 6 rfl (by kernel_rfl) .none (oe_store (v := .agg #[.bool nr303, .slice A304 n305 c306]) (vs := [.bool nr303, .slice A304 n305 c306]) (l := [.bool nr303, .slice A304 n305 c306]) (T rfl rfl) (T rfl rfl) sz100 rfl rfl rfl H332 rfl ?_)
             intro w333 s334 H335
             have E336 := below_st E331 N4 s334
             refine ⟨.inr trivial, ?_⟩
             have H337 := (s334.blk (e330.blk (e320.blk H311)) (by omega))
             refine aw_one 7 rfl (by kernel_rfl) .none (oe_store (v := .agg #[.bool nr314, .slice A315 n316 c317]) (vs := [.bool nr314, .slice A315 n316 c317]) (l := [.bool nr314, .slice A315 n316 c317]) (T rfl rfl) (T rfl rfl) sz100 rfl rfl rfl H337 rfl ?_)
             intro w338 s339 H340
             have E341 := below_st E336 N9 s339
             refine ⟨.inr trivial, ?_⟩
             have H342 := (s339.blk (s334.blk (e330.blk H322) (by omega)) (by omega))
             refine aw_one 8 rfl (by kernel_rfl) .none (oe_store (v := .agg #[.bool nr324, .slice A325 n326 c327]) (vs := [.bool nr324, .slice A325 n326 c327]) (l := [.bool nr324, .slice A325 n326 c327]) (T rfl rfl) (T rfl rfl) sz100 rfl rfl rfl H342 rfl ?_)
             intro w343 s344 H345
             have E346 := below_st E341 N14 s344
             refine ⟨.inr trivial, ?_⟩
             refine aw_done (by kernel_rfl) ?_
             have H347 := (s344.blk (s339.blk H335 (by omega)) (by omega))
             have H348 := (s344.blk H340 (by omega))
             have H349 := (s344.blk (s339.blk (s334.blk (e330.blk (e320.blk (e309.blk (d297.ext.blk n18.blk)))) (by omega)) (by omega)) (by omega))
             have h350 := (((((h307.ext e320).ext e330).st s334 H332 (by decide)).st s339 H337 (by decide)).st s344 H342 (by decide))
             have h351 := ((((h318.ext e330).st s334 H332 (by decide)).st s339 H337 (by decide)).st s344 H342 (by decide))
             have h352 := (((h328.st s334 H332 (by decide)).st s339 H337 (by decide)).st s344 H342 (by decide))
             exact hj76 _ _ ⟨nr303, A304, n305, c306, nr314, A315, n316, c317, nr324, A325, n326, c327, rfl, rfl, rfl, rfl, E346, H347, H348, H345, H349, h350, h351, h352⟩
           · refine id (DV.oe (dv_loads (l := [.bool nm, .slice Am lm cm]) agt100 sz100 (T rfl rfl) H312 rfl) ?_)
             refine ⟨.inr trivial, ?_⟩
             have h353 := ((((((hb.ext n3.ext).ext n8.ext).ext n13.ext).ext n18.ext).ext d297.ext).ext e309)
             refine aw_one 3 rfl (by kernel_rfl) .none (oe_callf (vs := [.agg #[.bool nb, .slice Ab lb cb]]) co151 (ar1 (T rfl rfl)) (l1Neg_ok h353 ) ?_)
             rintro _ w359 ⟨nr354, A355, n356, c357, rfl, e360, h358⟩
             have E361 := below_ext E310 E310.size e360
             have lh358 := Num.len (by decide) h358
             refine ⟨.inr trivial, ?_⟩
             have h362 := (((((((hm.ext n3.ext).ext n8.ext).ext n13.ext).ext n18.ext).ext d297.ext).ext e309).ext e360)
             refine aw_one 5 rfl (by kernel_rfl) .none (oe_callf (vs := [.agg #[.bool nm, .slice Am lm cm]]) co151 (ar1 (T rfl rfl)) (l1Neg_ok h362 ) ?_)
             rintro _ w368 ⟨nr363, A364, n365, c366, rfl, e369, h367⟩
             have E370 := below_ext E361 E361.size e369
             have lh367 := Num.len (by decide) h367
             refine ⟨.inr trivial, ?_⟩
             have H371 := (e369.blk (e360.blk (e309.blk H299)))
             refine aw_one 6 rfl (by kernel_rfl) .none (oe_store (v := .agg #[.bool nr303, .slice A304 n305 c306]) (vs := [.bool nr303, .slice A304 n305 c306]) (l := [.bool nr303, .slice A304 n305 c306]) (T rfl rfl) (T rfl rfl) sz100 rfl rfl rfl H371 rfl ?_)
             intro w372 s373 H374
             have E375 := below_st E370 N4 s373
             refine ⟨.inr trivial, ?_⟩
             have H376 := (s373.blk (e369.blk (e360.blk H311)) (by omega))
             refine aw_one 7 rfl (by kernel_rfl) .none (oe_store (v := .agg #[.bool nr354, .slice A355 n356 c357]) (vs := [.bool nr354, .slice A355 n356 c357]) (l := [.bool nr354, .slice A355 n356 c357]) (T rfl rfl) (T rfl rfl) sz100 rfl rfl rfl H376 rfl ?_)
             intro w377 s378 H379
             have E380 := below_st E375 N9 s378
             refine ⟨.inr trivial, ?_⟩
             have H381 := (s378.blk (s373.blk (e369.blk (e360.blk H312)) (by omega)) (by omega))
             refine aw_one 8 rfl (by kernel_rfl) .none (oe_store (v := .agg #[.bool nr363, .slice A364 n365 c366]) (vs := [.bool nr363, .slice A364 n365 c366]) (l := [.bool nr363, .slice A364 n365 c366]) (T rfl rfl) (T rfl rfl) sz100 rfl rfl rfl H381 rfl ?_)
             intro w382 s383 H384
             have E385 := below_st E380 N14 s383
             refine ⟨.inr trivial, ?_⟩
             refine aw_done (by kernel_rfl) ?_
             have H386 := (s383.blk (s378.blk H374 (by omega)) (by omega))
             have H387 := (s383.blk H379 (by omega))
             have H388 := (s383.blk (s378.blk (s373.blk (e369.blk (e360.blk (e309.blk (d297.ext.blk n18.blk)))) (by omega)) (by omega)) (by omega))
             have h389 := (((((h307.ext e360).ext e369).st s373 H371 (by decide)).st s378 H376 (by decide)).st s383 H381 (by decide))
             have h390 := ((((h358.ext e369).st s373 H371 (by decide)).st s378 H376 (by decide)).st s383 H381 (by decide))
             have h391 := (((h367.st s373 H371 (by decide)).st s378 H376 (by decide)).st s383 H381 (by decide))
             exact hj76 _ _ ⟨nr303, A304, n305, c306, nr354, A355, n356, c357, nr363, A364, n365, c366, rfl, rfl, rfl, rfl, E385, H386, H387, H384, H388, h389, h390, h391⟩
         · refine id (DV.oe (dv_loads (l := [.bool nm, .slice Am lm cm]) agt100 sz100 (T rfl rfl) H312 rfl) ?_)
           refine ⟨.inr trivial, ?_⟩
           refine aw_one 2 rfl (by kernel_rfl) .none (DV.oe (dv_loads (l := [.bool nb, .slice Ab lb cb]) agt100 sz100 (T rfl rfl) H311 rfl) ?_)
           refine ⟨.inr trivial, ?_⟩
           have h392 := ((((((hb.ext n3.ext).ext n8.ext).ext n13.ext).ext n18.ext).ext d297.ext).ext e309)
           refine aw_one 3 rfl (by kernel_rfl) .none (oe_callf (vs := [.agg #[.bool nb, .slice Ab lb cb]]) co151 (ar1 (T rfl rfl)) (l1Neg_ok h392 ) ?_)
           rintro _ w398 ⟨nr393, A394, n395, c396, rfl, e399, h397⟩
           have E400 := below_ext E310 E310.size e399
           have lh397 := Num.len (by decide) h397
           refine ⟨.inr trivial, ?_⟩
           have h401 := (((((((hm.ext n3.ext).ext n8.ext).ext n13.ext).ext n18.ext).ext d297.ext).ext e309).ext e399)
           refine aw_one 5 rfl (by kernel_rfl) .none (oe_callf (vs := [.agg #[.bool nm, .slice Am lm cm]]) co151 (ar1 (T rfl rfl)) (l1Neg_ok h401 ) ?_)
           rintro _ w407 ⟨nr402, A403, n404, c405, rfl, e408, h406⟩
           have E409 := below_ext E400 E400.size e408
           have lh406 := Num.len (by decide) h406
           refine ⟨.inr trivial, ?_⟩
           have H410 := (e408.blk (e399.blk (e309.blk H299)))
           refine aw_one 6 rfl (by kernel_rfl) .none (oe_store (v := .agg #[.bool nr303, .slice A304 n305 c306]) (vs := [.bool nr303, .slice A304 n305 c306]) (l := [.bool nr303, .slice A304 n305 c306]) (T rfl rfl) (T rfl rfl) sz100 rfl rfl rfl H410 rfl ?_)
           intro w411 s412 H413
           have E414 := below_st E409 N4 s412
           refine ⟨.inr trivial, ?_⟩
           have H415 := (s412.blk (e408.blk (e399.blk H311)) (by omega))
           refine aw_one 7 rfl (by kernel_rfl) .none (oe_store (v := .agg #[.bool nr393, .slice A394 n395 c396]) (vs := [.bool nr393, .slice A394 n395 c396]) (l := [.bool nr393, .slice A394 n395 c396]) (T rfl rfl) (T rfl rfl) sz100 rfl rfl rfl H415 rfl ?_)
           intro w416 s417 H418
           have E419 := below_st E414 N9 s417
           refine ⟨.inr trivial, ?_⟩
           have H420 := (s417.blk (s412.blk (e408.blk (e399.blk H312)) (by omega)) (by omega))
           refine aw_one 8 rfl (by kernel_rfl) .none (oe_store (v := .agg #[.bool nr402, .slice A403 n404 c405]) (vs := [.bool nr402, .slice A403 n404 c405]) (l := [.bool nr402, .slice A403 n404 c405]) (T rfl rfl) (T rfl rfl) sz100 rfl rfl rfl H420 rfl ?_)
           intro w421 s422 H423
           have E424 := below_st E419 N14 s422
           refine ⟨.inr trivial, ?_⟩
           refine aw_done (by kernel_rfl) ?_
           have H425 := (s422.blk (s417.blk H413 (by omega)) (by omega))
           have H426 := (s422.blk H418 (by omega))
           have H427 := (s422.blk (s417.blk (s412.blk (e408.blk (e399.blk (e309.blk (d297.ext.blk n18.blk)))) (by omega)) (by omega)) (by omega))
           have h428 := (((((h307.ext e399).ext e408).st s412 H410 (by decide)).st s417 H415 (by decide)).st s422 H420 (by decide))
           have h429 := ((((h397.ext e408).st s412 H410 (by decide)).st s417 H415 (by decide)).st s422 H420 (by decide))
           have h430 := (((h406.st s412 H410 (by decide)).st s417 H415 (by decide)).st s422 H420 (by decide))
           exact hj76 _ _ ⟨nr303, A304, n305, c306, nr393, A394, n395, c396, nr402, A403, n404, c405, rfl, rfl, rfl, rfl, E424, H425, H426, H423, H427, h428, h429, h430⟩
       · refine id (DV.oe (dv_loads (l := [.bool nb, .slice Ab lb cb]) agt100 sz100 (T rfl rfl) H300 rfl) ?_)
         refine ⟨.inr trivial, ?_⟩
         refine aw_two 1 4 rfl rfl (by kernel_rfl) .none .none ?_ ?_
         · have h431 := (((((ha.ext n3.ext).ext n8.ext).ext n13.ext).ext n18.ext).ext d297.ext)
           refine id (oe_callf (vs := [.agg #[.bool na, .slice Aa la ca]]) co151 (ar1 (T rfl rfl)) (l1Neg_ok h431 ) ?_)
           rintro _ w437 ⟨nr432, A433, n434, c435, rfl, e438, h436⟩
           have E439 := below_ext E298 E298.size e438
           have lh436 := Num.len (by decide) h436
           refine ⟨.inr trivial, ?_⟩
           have H440 := (e438.blk H301)
           refine aw_two 3 4 rfl rfl (by kernel_rfl) .none .none ?_ ?_
           · have h441 := ((((((hb.ext n3.ext).ext n8.ext).ext n13.ext).ext n18.ext).ext d297.ext).ext e438)
             refine id (oe_callf (vs := [.agg #[.bool nb, .slice Ab lb cb]]) co151 (ar1 (T rfl rfl)) (l1Neg_ok h441 ) ?_)
             rintro _ w447 ⟨nr442, A443, n444, c445, rfl, e448, h446⟩
             have E449 := below_ext E439 E439.size e448
             have lh446 := Num.len (by decide) h446
             refine ⟨.inr trivial, ?_⟩
             have H450 := (e448.blk H440)
             refine aw_one 4 rfl (by kernel_rfl) .none (DV.oe (dv_loads (l := [.bool nm, .slice Am lm cm]) agt100 sz100 (T rfl rfl) H450 rfl) ?_)
             refine ⟨.inr trivial, ?_⟩
             have h451 := (((((((hm.ext n3.ext).ext n8.ext).ext n13.ext).ext n18.ext).ext d297.ext).ext e438).ext e448)
             refine aw_one 5 rfl (by kernel_rfl) .none (oe_callf (vs := [.agg #[.bool nm, .slice Am lm cm]]) co151 (ar1 (T rfl rfl)) (l1Neg_ok h451 ) ?_)
             rintro _ w457 ⟨nr452, A453, n454, c455, rfl, e458, h456⟩
             have E459 := below_ext E449 E449.size e458
             have lh456 := Num.len (by decide) h456
             refine ⟨.inr trivial, ?_⟩
             have H460 := (e458.blk (e448.blk (e438.blk H299)))
             refine aw_one 6 rfl (by kernel_rfl) .none (oe_store (v := .agg #[.bool nr432, .slice A433 n434 c435]) (vs := [.bool nr432, .slice A433 n434 c435]) (l := [.bool nr432, .slice A433 n434 c435]) (T rfl rfl) (T rfl rfl) sz100 rfl rfl rfl H460 rfl ?_)
             intro w461 s462 H463
             have E464 := below_st E459 N4 s462
             refine ⟨.inr trivial, ?_⟩
             have H465 := (s462.blk (e458.blk (e448.blk (e438.blk H300))) (by omega))
             refine aw_one 7 rfl (by kernel_rfl) .none (oe_store (v := .agg #[.bool nr442, .slice A443 n444 c445]) (vs := [.bool nr442, .slice A443 n444 c445]) (l := [.bool nr442, .slice A443 n444 c445]) (T rfl rfl) (T rfl rfl) sz100 rfl rfl rfl H465 rfl ?_)
             intro w466 s467 H468
             have E469 := below_st E464 N9 s467
             refine ⟨.inr trivial, ?_⟩
             have H470 := (s467.blk (s462.blk (e458.blk H450) (by omega)) (by omega))
             refine aw_one 8 rfl (by kernel_rfl) .none (oe_store (v := .agg #[.bool nr452, .slice A453 n454 c455]) (vs := [.bool nr452, .slice A453 n454 c455]) (l := [.bool nr452, .slice A453 n454 c455]) (T rfl rfl) (T rfl rfl) sz100 rfl rfl rfl H470 rfl ?_)
             intro w471 s472 H473
             have E474 := below_st E469 N14 s472
             refine ⟨.inr trivial, ?_⟩
             refine aw_done (by kernel_rfl) ?_
             have H475 := (s472.blk (s467.blk H463 (by omega)) (by omega))
             have H476 := (s472.blk H468 (by omega))
             have H477 := (s472.blk (s467.blk (s462.blk (e458.blk (e448.blk (e438.blk (d297.ext.blk n18.blk)))) (by omega)) (by omega)) (by omega))
             have h478 := (((((h436.ext e448).ext e458).st s462 H460 (by decide)).st s467 H465 (by decide)).st s472 H470 (by decide))
             have h479 := ((((h446.ext e458).st s462 H460 (by decide)).st s467 H465 (by decide)).st s472 H470 (by decide))
             have h480 := (((h456.st s462 H460 (by decide)).st s467 H465 (by decide)).st s472 H470 (by decide))
             exact hj76 _ _ ⟨nr432, A433, n434, c435, nr442, A443, n444, c445, nr452, A453, n454, c455, rfl, rfl, rfl, rfl, E474, H475, H476, H473, H477, h478, h479, h480⟩
           · refine id (DV.oe (dv_loads (l := [.bool nm, .slice Am lm cm]) agt100 sz100 (T rfl rfl) H440 rfl) ?_)
             refine ⟨.inr trivial, ?_⟩
             have h481 := ((((((hb.ext n3.ext).ext n8.ext).ext n13.ext).ext n18.ext).ext d297.ext).ext e438)
             refine aw_one 3 rfl (by kernel_rfl) .none (oe_callf (vs := [.agg #[.bool nb, .slice Ab lb cb]]) co151 (ar1 (T rfl rfl)) (l1Neg_ok h481 ) ?_)
             rintro _ w487 ⟨nr482, A483, n484, c485, rfl, e488, h486⟩
             have E489 := below_ext E439 E439.size e488
             have lh486 := Num.len (by decide) h486
             refine ⟨.inr trivial, ?_⟩
             have h490 := (((((((hm.ext n3.ext).ext n8.ext).ext n13.ext).ext n18.ext).ext d297.ext).ext e438).ext e488)
             refine aw_one 5 rfl (by kernel_rfl) .none (oe_callf (vs := [.agg #[.bool nm, .slice Am lm cm]]) co151 (ar1 (T rfl rfl)) (l1Neg_ok h490 ) ?_)
             rintro _ w496 ⟨nr491, A492, n493, c494, rfl, e497, h495⟩
             have E498 := below_ext E489 E489.size e497
             have lh495 := Num.len (by decide) h495
             refine ⟨.inr trivial, ?_⟩
             have H499 := (e497.blk (e488.blk (e438.blk H299)))
             refine aw_one 6 rfl (by kernel_rfl) .none (oe_store (v := .agg #[.bool nr432, .slice A433 n434 c435]) (vs := [.bool nr432, .slice A433 n434 c435]) (l := [.bool nr432, .slice A433 n434 c435]) (T rfl rfl) (T rfl rfl) sz100 rfl rfl rfl H499 rfl ?_)
             intro w500 s501 H502
             have E503 := below_st E498 N4 s501
             refine ⟨.inr trivial, ?_⟩
             have H504 := (s501.blk (e497.blk (e488.blk (e438.blk H300))) (by omega))
             refine aw_one 7 rfl (by kernel_rfl) .none (oe_store (v := .agg #[.bool nr482, .slice A483 n484 c485]) (vs := [.bool nr482, .slice A483 n484 c485]) (l := [.bool nr482, .slice A483 n484 c485]) (T rfl rfl) (T rfl rfl) sz100 rfl rfl rfl H504 rfl ?_)
             intro w505 s506 H507
             have E508 := below_st E503 N9 s506
             refine ⟨.inr trivial, ?_⟩
             have H509 := (s506.blk (s501.blk (e497.blk (e488.blk H440)) (by omega)) (by omega))
             refine aw_one 8 rfl (by kernel_rfl) .none (oe_store (v := .agg #[.bool nr491, .slice A492 n493 c494]) (vs := [.bool nr491, .slice A492 n493 c494]) (l := [.bool nr491, .slice A492 n493 c494]) (T rfl rfl) (T rfl rfl) sz100 rfl rfl rfl H509 rfl ?_)
             intro w510 s511 H512
             have E513 := below_st E508 N14 s511
             refine ⟨.inr trivial, ?_⟩
             refine aw_done (by kernel_rfl) ?_
             have H514 := (s511.blk (s506.blk H502 (by omega)) (by omega))
             have H515 := (s511.blk H507 (by omega))
             have H516 := (s511.blk (s506.blk (s501.blk (e497.blk (e488.blk (e438.blk (d297.ext.blk n18.blk)))) (by omega)) (by omega)) (by omega))
             have h517 := (((((h436.ext e488).ext e497).st s501 H499 (by decide)).st s506 H504 (by decide)).st s511 H509 (by decide))
             have h518 := ((((h486.ext e497).st s501 H499 (by decide)).st s506 H504 (by decide)).st s511 H509 (by decide))
             have h519 := (((h495.st s501 H499 (by decide)).st s506 H504 (by decide)).st s511 H509 (by decide))
             exact hj76 _ _ ⟨nr432, A433, n434, c435, nr482, A483, n484, c485, nr491, A492, n493, c494, rfl, rfl, rfl, rfl, E513, H514, H515, H512, H516, h517, h518, h519⟩
         · refine id (DV.oe (dv_loads (l := [.bool nm, .slice Am lm cm]) agt100 sz100 (T rfl rfl) H301 rfl) ?_)
           refine ⟨.inr trivial, ?_⟩
           have h520 := (((((ha.ext n3.ext).ext n8.ext).ext n13.ext).ext n18.ext).ext d297.ext)
           refine aw_one 1 rfl (by kernel_rfl) .none (oe_callf (vs := [.agg #[.bool na, .slice Aa la ca]]) co151 (ar1 (T rfl rfl)) (l1Neg_ok h520 ) ?_)
           rintro _ w526 ⟨nr521, A522, n523, c524, rfl, e527, h525⟩
           have E528 := below_ext E298 E298.size e527
           have lh525 := Num.len (by decide) h525
           refine ⟨.inr trivial, ?_⟩
           have h529 := ((((((hb.ext n3.ext).ext n8.ext).ext n13.ext).ext n18.ext).ext d297.ext).ext e527)
           refine aw_one 3 rfl (by kernel_rfl) .none (oe_callf (vs := [.agg #[.bool nb, .slice Ab lb cb]]) co151 (ar1 (T rfl rfl)) (l1Neg_ok h529 ) ?_)
           rintro _ w535 ⟨nr530, A531, n532, c533, rfl, e536, h534⟩
           have E537 := below_ext E528 E528.size e536
           have lh534 := Num.len (by decide) h534
           refine ⟨.inr trivial, ?_⟩
           have h538 := (((((((hm.ext n3.ext).ext n8.ext).ext n13.ext).ext n18.ext).ext d297.ext).ext e527).ext e536)
           refine aw_one 5 rfl (by kernel_rfl) .none (oe_callf (vs := [.agg #[.bool nm, .slice Am lm cm]]) co151 (ar1 (T rfl rfl)) (l1Neg_ok h538 ) ?_)
           rintro _ w544 ⟨nr539, A540, n541, c542, rfl, e545, h543⟩
           have E546 := below_ext E537 E537.size e545
           have lh543 := Num.len (by decide) h543
           refine ⟨.inr trivial, ?_⟩
           have H547 := (e545.blk (e536.blk (e527.blk H299)))
           refine aw_one 6 rfl (by kernel_rfl) .none (oe_store (v := .agg #[.bool nr521, .slice A522 n523 c524]) (vs := [.bool nr521, .slice A522 n523 c524]) (l := [.bool nr521, .slice A522 n523 c524]) (T rfl rfl) (T rfl rfl) sz100 rfl rfl rfl H547 rfl ?_)
           intro w548 s549 H550
           have E551 := below_st E546 N4 s549
           refine ⟨.inr trivial, ?_⟩
           have H552 := (s549.blk (e545.blk (e536.blk (e527.blk H300))) (by omega))
           refine aw_one 7 rfl (by kernel_rfl) .none (oe_store (v := .agg #[.bool nr530, .slice A531 n532 c533]) (vs := [.bool nr530, .slice A531 n532 c533]) (l := [.bool nr530, .slice A531 n532 c533]) (T rfl rfl) (T rfl rfl) sz100 rfl rfl rfl H552 rfl ?_)
           intro w553 s554 H555
           have E556 := below_st E551 N9 s554
           refine ⟨.inr trivial, ?_⟩
           have H557 := (s554.blk (s549.blk (e545.blk (e536.blk (e527.blk H301))) (by omega)) (by omega))
           refine aw_one 8 rfl (by kernel_rfl) .none (oe_store (v := .agg #[.bool nr539, .slice A540 n541 c542]) (vs := [.bool nr539, .slice A540 n541 c542]) (l := [.bool nr539, .slice A540 n541 c542]) (T rfl rfl) (T rfl rfl) sz100 rfl rfl rfl H557 rfl ?_)
           intro w558 s559 H560
           have E561 := below_st E556 N14 s559
           refine ⟨.inr trivial, ?_⟩
           refine aw_done (by kernel_rfl) ?_
           have H562 := (s559.blk (s554.blk H550 (by omega)) (by omega))
           have H563 := (s559.blk H555 (by omega))
           have H564 := (s559.blk (s554.blk (s549.blk (e545.blk (e536.blk (e527.blk (d297.ext.blk n18.blk)))) (by omega)) (by omega)) (by omega))
           have h565 := (((((h525.ext e536).ext e545).st s549 H547 (by decide)).st s554 H552 (by decide)).st s559 H557 (by decide))
           have h566 := ((((h534.ext e545).st s549 H547 (by decide)).st s554 H552 (by decide)).st s559 H557 (by decide))
           have h567 := (((h543.st s549 H547 (by decide)).st s554 H552 (by decide)).st s559 H557 (by decide))
           exact hj76 _ _ ⟨nr521, A522, n523, c524, nr530, A531, n532, c533, nr539, A540, n541, c542, rfl, rfl, rfl, rfl, E561, H562, H563, H560, H564, h565, h566, h567⟩
       · refine id (DV.oe (dv_loads (l := [.bool nm, .slice Am lm cm]) agt100 sz100 (T rfl rfl) H301 rfl) ?_)
         refine ⟨.inr trivial, ?_⟩
         refine aw_two 1 2 rfl rfl (by kernel_rfl) .none .none ?_ ?_
         · have h568 := (((((ha.ext n3.ext).ext n8.ext).ext n13.ext).ext n18.ext).ext d297.ext)
           refine id (oe_callf (vs := [.agg #[.bool na, .slice Aa la ca]]) co151 (ar1 (T rfl rfl)) (l1Neg_ok h568 ) ?_)
           rintro _ w574 ⟨nr569, A570, n571, c572, rfl, e575, h573⟩
           have E576 := below_ext E298 E298.size e575
           have lh573 := Num.len (by decide) h573
           refine ⟨.inr trivial, ?_⟩
           have H577 := (e575.blk H300)
           refine aw_one 2 rfl (by kernel_rfl) .none (DV.oe (dv_loads (l := [.bool nb, .slice Ab lb cb]) agt100 sz100 (T rfl rfl) H577 rfl) ?_)
           refine ⟨.inr trivial, ?_⟩
           have h578 := ((((((hb.ext n3.ext).ext n8.ext).ext n13.ext).ext n18.ext).ext d297.ext).ext e575)
           refine aw_one 3 rfl (by kernel_rfl) .none (oe_callf (vs := [.agg #[.bool nb, .slice Ab lb cb]]) co151 (ar1 (T rfl rfl)) (l1Neg_ok h578 ) ?_)
           rintro _ w584 ⟨nr579, A580, n581, c582, rfl, e585, h583⟩
           have E586 := below_ext E576 E576.size e585
           have lh583 := Num.len (by decide) h583
           refine ⟨.inr trivial, ?_⟩
           have h587 := (((((((hm.ext n3.ext).ext n8.ext).ext n13.ext).ext n18.ext).ext d297.ext).ext e575).ext e585)
           refine aw_one 5 rfl (by kernel_rfl) .none (oe_callf (vs := [.agg #[.bool nm, .slice Am lm cm]]) co151 (ar1 (T rfl rfl)) (l1Neg_ok h587 ) ?_)
           rintro _ w593 ⟨nr588, A589, n590, c591, rfl, e594, h592⟩
           have E595 := below_ext E586 E586.size e594
           have lh592 := Num.len (by decide) h592
           refine ⟨.inr trivial, ?_⟩
           have H596 := (e594.blk (e585.blk (e575.blk H299)))
           refine aw_one 6 rfl (by kernel_rfl) .none (oe_store (v := .agg #[.bool nr569, .slice A570 n571 c572]) (vs := [.bool nr569, .slice A570 n571 c572]) (l := [.bool nr569, .slice A570 n571 c572]) (T rfl rfl) (T rfl rfl) sz100 rfl rfl rfl H596 rfl ?_)
           intro w597 s598 H599
           have E600 := below_st E595 N4 s598
           refine ⟨.inr trivial, ?_⟩
           have H601 := (s598.blk (e594.blk (e585.blk H577)) (by omega))
           refine aw_one 7 rfl (by kernel_rfl) .none (oe_store (v := .agg #[.bool nr579, .slice A580 n581 c582]) (vs := [.bool nr579, .slice A580 n581 c582]) (l := [.bool nr579, .slice A580 n581 c582]) (T rfl rfl) (T rfl rfl) sz100 rfl rfl rfl H601 rfl ?_)
           intro w602 s603 H604
           have E605 := below_st E600 N9 s603
           refine ⟨.inr trivial, ?_⟩
           have H606 := (s603.blk (s598.blk (e594.blk (e585.blk (e575.blk H301))) (by omega)) (by omega))
           refine aw_one 8 rfl (by kernel_rfl) .none (oe_store (v := .agg #[.bool nr588, .slice A589 n590 c591]) (vs := [.bool nr588, .slice A589 n590 c591]) (l := [.bool nr588, .slice A589 n590 c591]) (T rfl rfl) (T rfl rfl) sz100 rfl rfl rfl H606 rfl ?_)
           intro w607 s608 H609
           have E610 := below_st E605 N14 s608
           refine ⟨.inr trivial, ?_⟩
           refine aw_done (by kernel_rfl) ?_
           have H611 := (s608.blk (s603.blk H599 (by omega)) (by omega))
           have H612 := (s608.blk H604 (by omega))
           have H613 := (s608.blk (s603.blk (s598.blk (e594.blk (e585.blk (e575.blk (d297.ext.blk n18.blk)))) (by omega)) (by omega)) (by omega))
           have h614 := (((((h573.ext e585).ext e594).st s598 H596 (by decide)).st s603 H601 (by decide)).st s608 H606 (by decide))
           have h615 := ((((h583.ext e594).st s598 H596 (by decide)).st s603 H601 (by decide)).st s608 H606 (by decide))
           have h616 := (((h592.st s598 H596 (by decide)).st s603 H601 (by decide)).st s608 H606 (by decide))
           exact hj76 _ _ ⟨nr569, A570, n571, c572, nr579, A580, n581, c582, nr588, A589, n590, c591, rfl, rfl, rfl, rfl, E610, H611, H612, H609, H613, h614, h615, h616⟩
         · refine id (DV.oe (dv_loads (l := [.bool nb, .slice Ab lb cb]) agt100 sz100 (T rfl rfl) H300 rfl) ?_)
           refine ⟨.inr trivial, ?_⟩
           have h617 := (((((ha.ext n3.ext).ext n8.ext).ext n13.ext).ext n18.ext).ext d297.ext)
           refine aw_one 1 rfl (by kernel_rfl) .none (oe_callf (vs := [.agg #[.bool na, .slice Aa la ca]]) co151 (ar1 (T rfl rfl)) (l1Neg_ok h617 ) ?_)
           rintro _ w623 ⟨nr618, A619, n620, c621, rfl, e624, h622⟩
           have E625 := below_ext E298 E298.size e624
           have lh622 := Num.len (by decide) h622
           refine ⟨.inr trivial, ?_⟩
           have h626 := ((((((hb.ext n3.ext).ext n8.ext).ext n13.ext).ext n18.ext).ext d297.ext).ext e624)
           refine aw_one 3 rfl (by kernel_rfl) .none (oe_callf (vs := [.agg #[.bool nb, .slice Ab lb cb]]) co151 (ar1 (T rfl rfl)) (l1Neg_ok h626 ) ?_)
           rintro _ w632 ⟨nr627, A628, n629, c630, rfl, e633, h631⟩
           have E634 := below_ext E625 E625.size e633
           have lh631 := Num.len (by decide) h631
           refine ⟨.inr trivial, ?_⟩
           have h635 := (((((((hm.ext n3.ext).ext n8.ext).ext n13.ext).ext n18.ext).ext d297.ext).ext e624).ext e633)
           refine aw_one 5 rfl (by kernel_rfl) .none (oe_callf (vs := [.agg #[.bool nm, .slice Am lm cm]]) co151 (ar1 (T rfl rfl)) (l1Neg_ok h635 ) ?_)
           rintro _ w641 ⟨nr636, A637, n638, c639, rfl, e642, h640⟩
           have E643 := below_ext E634 E634.size e642
           have lh640 := Num.len (by decide) h640
           refine ⟨.inr trivial, ?_⟩
           have H644 := (e642.blk (e633.blk (e624.blk H299)))
           refine aw_one 6 rfl (by kernel_rfl) .none (oe_store (v := .agg #[.bool nr618, .slice A619 n620 c621]) (vs := [.bool nr618, .slice A619 n620 c621]) (l := [.bool nr618, .slice A619 n620 c621]) (T rfl rfl) (T rfl rfl) sz100 rfl rfl rfl H644 rfl ?_)
           intro w645 s646 H647
           have E648 := below_st E643 N4 s646
           refine ⟨.inr trivial, ?_⟩
           have H649 := (s646.blk (e642.blk (e633.blk (e624.blk H300))) (by omega))
           refine aw_one 7 rfl (by kernel_rfl) .none (oe_store (v := .agg #[.bool nr627, .slice A628 n629 c630]) (vs := [.bool nr627, .slice A628 n629 c630]) (l := [.bool nr627, .slice A628 n629 c630]) (T rfl rfl) (T rfl rfl) sz100 rfl rfl rfl H649 rfl ?_)
           intro w650 s651 H652
           have E653 := below_st E648 N9 s651
           refine ⟨.inr trivial, ?_⟩
           have H654 := (s651.blk (s646.blk (e642.blk (e633.blk (e624.blk H301))) (by omega)) (by omega))
           refine aw_one 8 rfl (by kernel_rfl) .none (oe_store (v := .agg #[.bool nr636, .slice A637 n638 c639]) (vs := [.bool nr636, .slice A637 n638 c639]) (l := [.bool nr636, .slice A637 n638 c639]) (T rfl rfl) (T rfl rfl) sz100 rfl rfl rfl H654 rfl ?_)
           intro w655 s656 H657
           have E658 := below_st E653 N14 s656
           refine ⟨.inr trivial, ?_⟩
           refine aw_done (by kernel_rfl) ?_
           have H659 := (s656.blk (s651.blk H647 (by omega)) (by omega))
           have H660 := (s656.blk H652 (by omega))
           have H661 := (s656.blk (s651.blk (s646.blk (e642.blk (e633.blk (e624.blk (d297.ext.blk n18.blk)))) (by omega)) (by omega)) (by omega))
           have h662 := (((((h622.ext e633).ext e642).st s646 H644 (by decide)).st s651 H649 (by decide)).st s656 H654 (by decide))
           have h663 := ((((h631.ext e642).st s646 H644 (by decide)).st s651 H649 (by decide)).st s656 H654 (by decide))
           have h664 := (((h640.st s646 H644 (by decide)).st s651 H649 (by decide)).st s656 H654 (by decide))
           exact hj76 _ _ ⟨nr618, A619, n620, c621, nr627, A628, n629, c630, nr636, A637, n638, c639, rfl, rfl, rfl, rfl, E658, H659, H660, H657, H661, h662, h663, h664⟩
     · refine id (DV.oe (dv_loads (l := [.bool nb, .slice Ab lb cb]) agt100 sz100 (T rfl rfl) H300 rfl) ?_)
       refine ⟨.inr trivial, ?_⟩
       refine aw_two 0 4 rfl rfl (by kernel_rfl) .none .none ?_ ?_
       · refine id (DV.oe (dv_loads (l := [.bool na, .slice Aa la ca]) agt100 sz100 (T rfl rfl) H299 rfl) ?_)
         refine ⟨.inr trivial, ?_⟩
         refine aw_two 1 4 rfl rfl (by kernel_rfl) .none .none ?_ ?_
         · have h665 := (((((ha.ext n3.ext).ext n8.ext).ext n13.ext).ext n18.ext).ext d297.ext)
           refine id (oe_callf (vs := [.agg #[.bool na, .slice Aa la ca]]) co151 (ar1 (T rfl rfl)) (l1Neg_ok h665 ) ?_)
           rintro _ w671 ⟨nr666, A667, n668, c669, rfl, e672, h670⟩
           have E673 := below_ext E298 E298.size e672
           have lh670 := Num.len (by decide) h670
           refine ⟨.inr trivial, ?_⟩
           have H674 := (e672.blk H301)
           refine aw_two 3 4 rfl rfl (by kernel_rfl) .none .none ?_ ?_
           · have h675 := ((((((hb.ext n3.ext).ext n8.ext).ext n13.ext).ext n18.ext).ext d297.ext).ext e672)
             refine id (oe_callf (vs := [.agg #[.bool nb, .slice Ab lb cb]]) co151 (ar1 (T rfl rfl)) (l1Neg_ok h675 ) ?_)
             rintro _ w681 ⟨nr676, A677, n678, c679, rfl, e682, h680⟩
             have E683 := below_ext E673 E673.size e682
             have lh680 := Num.len (by decide) h680
             refine ⟨.inr trivial, ?_⟩
             have H684 := (e682.blk H674)
             refine aw_one 4 rfl (by kernel_rfl) .none (DV.oe (dv_loads (l := [.bool nm, .slice Am lm cm]) agt100 sz100 (T rfl rfl) H684 rfl) ?_)
             refine ⟨.inr trivial, ?_⟩
             have h685 := (((((((hm.ext n3.ext).ext n8.ext).ext n13.ext).ext n18.ext).ext d297.ext).ext e672).ext e682)
             refine aw_one 5 rfl (by kernel_rfl) .none (oe_callf (vs := [.agg #[.bool nm, .slice Am lm cm]]) co151 (ar1 (T rfl rfl)) (l1Neg_ok h685 ) ?_)
             rintro _ w691 ⟨nr686, A687, n688, c689, rfl, e692, h690⟩
             have E693 := below_ext E683 E683.size e692
             have lh690 := Num.len (by decide) h690
             refine ⟨.inr trivial, ?_⟩
             have H694 := (e692.blk (e682.blk (e672.blk H299)))
             refine aw_one 6 rfl (by kernel_rfl) .none (oe_store (v := .agg #[.bool nr666, .slice A667 n668 c669]) (vs := [.bool nr666, .slice A667 n668 c669]) (l := [.bool nr666, .slice A667 n668 c669]) (T rfl rfl) (T rfl rfl) sz100 rfl rfl rfl H694 rfl ?_)
             intro w695 s696 H697
             have E698 := below_st E693 N4 s696
             refine ⟨.inr trivial, ?_⟩
             have H699 := (s696.blk (e692.blk (e682.blk (e672.blk H300))) (by omega))
             refine aw_one 7 rfl (by kernel_rfl) .none (oe_store (v := .agg #[.bool nr676, .slice A677 n678 c679]) (vs := [.bool nr676, .slice A677 n678 c679]) (l := [.bool nr676, .slice A677 n678 c679]) (T rfl rfl) (T rfl rfl) sz100 rfl rfl rfl H699 rfl ?_)
             intro w700 s701 H702
             have E703 := below_st E698 N9 s701
             refine ⟨.inr trivial, ?_⟩
             have H704 := (s701.blk (s696.blk (e692.blk H684) (by omega)) (by omega))
             refine aw_one 8 rfl (by kernel_rfl) .none (oe_store (v := .agg #[.bool nr686, .slice A687 n688 c689]) (vs := [.bool nr686, .slice A687 n688 c689]) (l := [.bool nr686, .slice A687 n688 c689]) (T rfl rfl) (T rfl rfl) sz100 rfl rfl rfl H704 rfl ?_)
             intro w705 s706 H707
             have E708 := below_st E703 N14 s706
             refine ⟨.inr trivial, ?_⟩
             refine aw_done (by kernel_rfl) ?_
             have H709 := (s706.blk (s701.blk H697 (by omega)) (by omega))
             have H710 := (s706.blk H702 (by omega))
             have H711 := (s706.blk (s701.blk (s696.blk (e692.blk (e682.blk (e672.blk (d297.ext.blk n18.blk)))) (by omega)) (by omega)) (by omega))
             have h712 := (((((h670.ext e682).ext e692).st s696 H694 (by decide)).st s701 H699 (by decide)).st s706 H704 (by decide))
             have h713 := ((((h680.ext e692).st s696 H694 (by decide)).st s701 H699 (by decide)).st s706 H704 (by decide))
             have h714 := (((h690.st s696 H694 (by decide)).st s701 H699 (by decide)).st s706 H704 (by decide))
             exact hj76 _ _ ⟨nr666, A667, n668, c669, nr676, A677, n678, c679, nr686, A687, n688, c689, rfl, rfl, rfl, rfl, E708, H709, H710, H707, H711, h712, h713, h714⟩
           · refine id (DV.oe (dv_loads (l := [.bool nm, .slice Am lm cm]) agt100 sz100 (T rfl rfl) H674 rfl) ?_)
             refine ⟨.inr trivial, ?_⟩
             have h715 := ((((((hb.ext n3.ext).ext n8.ext).ext n13.ext).ext n18.ext).ext d297.ext).ext e672)
             refine aw_one 3 rfl (by kernel_rfl) .none (oe_callf (vs := [.agg #[.bool nb, .slice Ab lb cb]]) co151 (ar1 (T rfl rfl)) (l1Neg_ok h715 ) ?_)
             rintro _ w721 ⟨nr716, A717, n718, c719, rfl, e722, h720⟩
             have E723 := below_ext E673 E673.size e722
             have lh720 := Num.len (by decide) h720
             refine ⟨.inr trivial, ?_⟩
             have h724 := (((((((hm.ext n3.ext).ext n8.ext).ext n13.ext).ext n18.ext).ext d297.ext).ext e672).ext e722)
             refine aw_one 5 rfl (by kernel_rfl) .none (oe_callf (vs := [.agg #[.bool nm, .slice Am lm cm]]) co151 (ar1 (T rfl rfl)) (l1Neg_ok h724 ) ?_)
             rintro _ w730 ⟨nr725, A726, n727, c728, rfl, e731, h729⟩
             have E732 := below_ext E723 E723.size e731
             have lh729 := Num.len (by decide) h729
             refine ⟨.inr trivial, ?_⟩
             have H733 := (e731.blk (e722.blk (e672.blk H299)))
             refine aw_one 6 rfl (by kernel_rfl) .none (oe_store (v := .agg #[.bool nr666, .slice A667 n668 c669]) (vs := [.bool nr666, .slice A667 n668 c669]) (l := [.bool nr666, .slice A667 n668 c669]) (T rfl rfl) (T rfl rfl) sz100 rfl rfl rfl H733 rfl ?_)
             intro w734 s735 H736
             have E737 := below_st E732 N4 s735
             refine ⟨.inr trivial, ?_⟩
             have H738 := (s735.blk (e731.blk (e722.blk (e672.blk H300))) (by omega))
             refine aw_one 7 rfl (by kernel_rfl) .none (oe_store (v := .agg #[.bool nr716, .slice A717 n718 c719]) (vs := [.bool nr716, .slice A717 n718 c719]) (l := [.bool nr716, .slice A717 n718 c719]) (T rfl rfl) (T rfl rfl) sz100 rfl rfl rfl H738 rfl ?_)
             intro w739 s740 H741
             have E742 := below_st E737 N9 s740
             refine ⟨.inr trivial, ?_⟩
             have H743 := (s740.blk (s735.blk (e731.blk (e722.blk H674)) (by omega)) (by omega))
             refine aw_one 8 rfl (by kernel_rfl) .none (oe_store (v := .agg #[.bool nr725, .slice A726 n727 c728]) (vs := [.bool nr725, .slice A726 n727 c728]) (l := [.bool nr725, .slice A726 n727 c728]) (T rfl rfl) (T rfl rfl) sz100 rfl rfl rfl H743 rfl ?_)
             intro w744 s745 H746
             have E747 := below_st E742 N14 s745
             refine ⟨.inr trivial, ?_⟩
             refine aw_done (by kernel_rfl) ?_
             have H748 := (s745.blk (s740.blk H736 (by omega)) (by omega))
             have H749 := (s745.blk H741 (by omega))
             have H750 := (s745.blk (s740.blk (s735.blk (e731.blk (e722.blk (e672.blk (d297.ext.blk n18.blk)))) (by omega)) (by omega)) (by omega))
             have h751 := (((((h670.ext e722).ext e731).st s735 H733 (by decide)).st s740 H738 (by decide)).st s745 H743 (by decide))
             have h752 := ((((h720.ext e731).st s735 H733 (by decide)).st s740 H738 (by decide)).st s745 H743 (by decide))
             have h753 := (((h729.st s735 H733 (by decide)).st s740 H738 (by decide)).st s745 H743 (by decide))
             exact hj76 _ _ ⟨nr666, A667, n668, c669, nr716, A717, n718, c719, nr725, A726, n727, c728, rfl, rfl, rfl, rfl, E747, H748, H749, H746, H750, h751, h752, h753⟩
         · refine id (DV.oe (dv_loads (l := [.bool nm, .slice Am lm cm]) agt100 sz100 (T rfl rfl) H301 rfl) ?_)
           refine ⟨.inr trivial, ?_⟩
           have h754 := (((((ha.ext n3.ext).ext n8.ext).ext n13.ext).ext n18.ext).ext d297.ext)
           refine aw_one 1 rfl (by kernel_rfl) .none (oe_callf (vs := [.agg #[.bool na, .slice Aa la ca]]) co151 (ar1 (T rfl rfl)) (l1Neg_ok h754 ) ?_)
           rintro _ w760 ⟨nr755, A756, n757, c758, rfl, e761, h759⟩
           have E762 := below_ext E298 E298.size e761
           have lh759 := Num.len (by decide) h759
           refine ⟨.inr trivial, ?_⟩
           have h763 := ((((((hb.ext n3.ext).ext n8.ext).ext n13.ext).ext n18.ext).ext d297.ext).ext e761)
           refine aw_one 3 rfl (by kernel_rfl) .none (oe_callf (vs := [.agg #[.bool nb, .slice Ab lb cb]]) co151 (ar1 (T rfl rfl)) (l1Neg_ok h763 ) ?_)
           rintro _ w769 ⟨nr764, A765, n766, c767, rfl, e770, h768⟩
           have E771 := below_ext E762 E762.size e770
           have lh768 := Num.len (by decide) h768
           refine ⟨.inr trivial, ?_⟩
           have h772 := (((((((hm.ext n3.ext).ext n8.ext).ext n13.ext).ext n18.ext).ext d297.ext).ext e761).ext e770)
           refine aw_one 5 rfl (by kernel_rfl) .none (oe_callf (vs := [.agg #[.bool nm, .slice Am lm cm]]) co151 (ar1 (T rfl rfl)) (l1Neg_ok h772 ) ?_)
           rintro _ w778 ⟨nr773, A774, n775, c776, rfl, e779, h777⟩
           have E780 := below_ext E771 E771.size e779
           have lh777 := Num.len (by decide) h777
           refine ⟨.inr trivial, ?_⟩
           have H781 := (e779.blk (e770.blk (e761.blk H299)))
           refine aw_one 6 rfl (by kernel_rfl) .none (oe_store (v := .agg #[.bool nr755, .slice A756 n757 c758]) (vs := [.bool nr755, .slice A756 n757 c758]) (l := [.bool nr755, .slice A756 n757 c758]) (T rfl rfl) (T rfl rfl) sz100 rfl rfl rfl H781 rfl ?_)
           intro w782 s783 H784
           have E785 := below_st E780 N4 s783
           refine ⟨.inr trivial, ?_⟩
           have H786 := (s783.blk (e779.blk (e770.blk (e761.blk H300))) (by omega))
           refine aw_one 7 rfl (by kernel_rfl) .none (oe_store (v := .agg #[.bool nr764, .slice A765 n766 c767]) (vs := [.bool nr764, .slice A765 n766 c767]) (l := [.bool nr764, .slice A765 n766 c767]) (T rfl rfl) (T rfl rfl) sz100 rfl rfl rfl H786 rfl ?_)
           intro w787 s788 H789
           have E790 := below_st E785 N9 s788
           refine ⟨.inr trivial, ?_⟩
           have H791 := (s788.blk (s783.blk (e779.blk (e770.blk (e761.blk H301))) (by omega)) (by omega))
           refine aw_one 8 rfl (by kernel_rfl) .none (oe_store (v := .agg #[.bool nr773, .slice A774 n775 c776]) (vs := [.bool nr773, .slice A774 n775 c776]) (l := [.bool nr773, .slice A774 n775 c776]) (T rfl rfl) (T rfl rfl) sz100 rfl rfl rfl H791 rfl ?_)
           intro w792 s793 H794
           have E795 := below_st E790 N14 s793
           refine ⟨.inr trivial, ?_⟩
           refine aw_done (by kernel_rfl) ?_
           have H796 := (s793.blk (s788.blk H784 (by omega)) (by omega))
           have H797 := (s793.blk H789 (by omega))
           have H798 := (s793.blk (s788.blk (s783.blk (e779.blk (e770.blk (e761.blk (d297.ext.blk n18.blk)))) (by omega)) (by omega)) (by omega))
           have h799 := (((((h759.ext e770).ext e779).st s783 H781 (by decide)).st s788 H786 (by decide)).st s793 H791 (by decide))
           have h800 := ((((h768.ext e779).st s783 H781 (by decide)).st s788 H786 (by decide)).st s793 H791 (by decide))
           have h801 := (((h777.st s783 H781 (by decide)).st s788 H786 (by decide)).st s793 H791 (by decide))
           exact hj76 _ _ ⟨nr755, A756, n757, c758, nr764, A765, n766, c767, nr773, A774, n775, c776, rfl, rfl, rfl, rfl, E795, H796, H797, H794, H798, h799, h800, h801⟩
       · refine id (DV.oe (dv_loads (l := [.bool nm, .slice Am lm cm]) agt100 sz100 (T rfl rfl) H301 rfl) ?_)
         refine ⟨.inr trivial, ?_⟩
         refine aw_one 0 rfl (by kernel_rfl) .none (DV.oe (dv_loads (l := [.bool na, .slice Aa la ca]) agt100 sz100 (T rfl rfl) H299 rfl) ?_)
         refine ⟨.inr trivial, ?_⟩
         have h802 := (((((ha.ext n3.ext).ext n8.ext).ext n13.ext).ext n18.ext).ext d297.ext)
         refine aw_one 1 rfl (by kernel_rfl) .none (oe_callf (vs := [.agg #[.bool na, .slice Aa la ca]]) co151 (ar1 (T rfl rfl)) (l1Neg_ok h802 ) ?_)
         rintro _ w808 ⟨nr803, A804, n805, c806, rfl, e809, h807⟩
         have E810 := below_ext E298 E298.size e809
         have lh807 := Num.len (by decide) h807
         refine ⟨.inr trivial, ?_⟩
         have h811 := ((((((hb.ext n3.ext).ext n8.ext).ext n13.ext).ext n18.ext).ext d297.ext).ext e809)
         refine aw_one 3 rfl (by kernel_rfl) .none (oe_callf (vs := [.agg #[.bool nb, .slice Ab lb cb]]) co151 (ar1 (T rfl rfl)) (l1Neg_ok h811 ) ?_)
         rintro _ w817 ⟨nr812, A813, n814, c815, rfl, e818, h816⟩
         have E819 := below_ext E810 E810.size e818
         have lh816 := Num.len (by decide) h816
         refine ⟨.inr trivial, ?_⟩
         have h820 := (((((((hm.ext n3.ext).ext n8.ext).ext n13.ext).ext n18.ext).ext d297.ext).ext e809).ext e818)
         refine aw_one 5 rfl (by kernel_rfl) .none (oe_callf (vs := [.agg #[.bool nm, .slice Am lm cm]]) co151 (ar1 (T rfl rfl)) (l1Neg_ok h820 ) ?_)
         rintro _ w826 ⟨nr821, A822, n823, c824, rfl, e827, h825⟩
         have E828 := below_ext E819 E819.size e827
         have lh825 := Num.len (by decide) h825
         refine ⟨.inr trivial, ?_⟩
         have H829 := (e827.blk (e818.blk (e809.blk H299)))
         refine aw_one 6 rfl (by kernel_rfl) .none (oe_store (v := .agg #[.bool nr803, .slice A804 n805 c806]) (vs := [.bool nr803, .slice A804 n805 c806]) (l := [.bool nr803, .slice A804 n805 c806]) (T rfl rfl) (T rfl rfl) sz100 rfl rfl rfl H829 rfl ?_)
         intro w830 s831 H832
         have E833 := below_st E828 N4 s831
         refine ⟨.inr trivial, ?_⟩
         have H834 := (s831.blk (e827.blk (e818.blk (e809.blk H300))) (by omega))
         refine aw_one 7 rfl (by kernel_rfl) .none (oe_store (v := .agg #[.bool nr812, .slice A813 n814 c815]) (vs := [.bool nr812, .slice A813 n814 c815]) (l := [.bool nr812, .slice A813 n814 c815]) (T rfl rfl) (T rfl rfl) sz100 rfl rfl rfl H834 rfl ?_)
         intro w835 s836 H837
         have E838 := below_st E833 N9 s836
         refine ⟨.inr trivial, ?_⟩
         have H839 := (s836.blk (s831.blk (e827.blk (e818.blk (e809.blk H301))) (by omega)) (by omega))
         refine aw_one 8 rfl (by kernel_rfl) .none (oe_store (v := .agg #[.bool nr821, .slice A822 n823 c824]) (vs := [.bool nr821, .slice A822 n823 c824]) (l := [.bool nr821, .slice A822 n823 c824]) (T rfl rfl) (T rfl rfl) sz100 rfl rfl rfl H839 rfl ?_)
         intro w840 s841 H842
         have E843 := below_st E838 N14 s841
         refine ⟨.inr trivial, ?_⟩
         refine aw_done (by kernel_rfl) ?_
         have H844 := (s841.blk (s836.blk H832 (by omega)) (by omega))
         have H845 := (s841.blk H837 (by omega))
         have H846 := (s841.blk (s836.blk (s831.blk (e827.blk (e818.blk (e809.blk (d297.ext.blk n18.blk)))) (by omega)) (by omega)) (by omega))
         have h847 := (((((h807.ext e818).ext e827).st s831 H829 (by decide)).st s836 H834 (by decide)).st s841 H839 (by decide))
         have h848 := ((((h816.ext e827).st s831 H829 (by decide)).st s836 H834 (by decide)).st s841 H839 (by decide))
         have h849 := (((h825.st s831 H829 (by decide)).st s836 H834 (by decide)).st s841 H839 (by decide))
         exact hj76 _ _ ⟨nr803, A804, n805, c806, nr812, A813, n814, c815, nr821, A822, n823, c824, rfl, rfl, rfl, rfl, E843, H844, H845, H842, H846, h847, h848, h849⟩
     · refine id (DV.oe (dv_loads (l := [.bool nm, .slice Am lm cm]) agt100 sz100 (T rfl rfl) H301 rfl) ?_)
       refine ⟨.inr trivial, ?_⟩
       refine aw_two 0 2 rfl rfl (by kernel_rfl) .none .none ?_ ?_
       · refine id (DV.oe (dv_loads (l := [.bool na, .slice Aa la ca]) agt100 sz100 (T rfl rfl) H299 rfl) ?_)
         refine ⟨.inr trivial, ?_⟩
         refine aw_two 1 2 rfl rfl (by kernel_rfl) .none .none ?_ ?_
         · have h850 := (((((ha.ext n3.ext).ext n8.ext).ext n13.ext).ext n18.ext).ext d297.ext)
           refine id (oe_callf (vs := [.agg #[.bool na, .slice Aa la ca]]) co151 (ar1 (T rfl rfl)) (l1Neg_ok h850 ) ?_)
           rintro _ w856 ⟨nr851, A852, n853, c854, rfl, e857, h855⟩
           have E858 := below_ext E298 E298.size e857
           have lh855 := Num.len (by decide) h855
           refine ⟨.inr trivial, ?_⟩
           have H859 := (e857.blk H300)
           refine aw_one 2 rfl (by kernel_rfl) .none (DV.oe (dv_loads (l := [.bool nb, .slice Ab lb cb]) agt100 sz100 (T rfl rfl) H859 rfl) ?_)
           refine ⟨.inr trivial, ?_⟩
           have h860 := ((((((hb.ext n3.ext).ext n8.ext).ext n13.ext).ext n18.ext).ext d297.ext).ext e857)
           refine aw_one 3 rfl (by kernel_rfl) .none (oe_callf (vs := [.agg #[.bool nb, .slice Ab lb cb]]) co151 (ar1 (T rfl rfl)) (l1Neg_ok h860 ) ?_)
           rintro _ w866 ⟨nr861, A862, n863, c864, rfl, e867, h865⟩
           have E868 := below_ext E858 E858.size e867
           have lh865 := Num.len (by decide) h865
           refine ⟨.inr trivial, ?_⟩
           have h869 := (((((((hm.ext n3.ext).ext n8.ext).ext n13.ext).ext n18.ext).ext d297.ext).ext e857).ext e867)
           refine aw_one 5 rfl (by kernel_rfl) .none (oe_callf (vs := [.agg #[.bool nm, .slice Am lm cm]]) co151 (ar1 (T rfl rfl)) (l1Neg_ok h869 ) ?_)
           rintro _ w875 ⟨nr870, A871, n872, c873, rfl, e876, h874⟩
           have E877 := below_ext E868 E868.size e876
           have lh874 := Num.len (by decide) h874
           refine ⟨.inr trivial, ?_⟩
           have H878 := (e876.blk (e867.blk (e857.blk H299)))
           refine aw_one 6 rfl (by kernel_rfl) .none (oe_store (v := .agg #[.bool nr851, .slice A852 n853 c854]) (vs := [.bool nr851, .slice A852 n853 c854]) (l := [.bool nr851, .slice A852 n853 c854]) (T rfl rfl) (T rfl rfl) sz100 rfl rfl rfl H878 rfl ?_)
           intro w879 s880 H881
           have E882 := below_st E877 N4 s880
           refine ⟨.inr trivial, ?_⟩
           have H883 := (s880.blk (e876.blk (e867.blk H859)) (by omega))
           refine aw_one 7 rfl (by kernel_rfl) .none (oe_store (v := .agg #[.bool nr861, .slice A862 n863 c864]) (vs := [.bool nr861, .slice A862 n863 c864]) (l := [.bool nr861, .slice A862 n863 c864]) (T rfl rfl) (T rfl rfl) sz100 rfl rfl rfl H883 rfl ?_)
           intro w884 s885 H886
           have E887 := below_st E882 N9 s885
           refine ⟨.inr trivial, ?_⟩
           have H888 := (s885.blk (s880.blk (e876.blk (e867.blk (e857.blk H301))) (by omega)) (by omega))
           refine aw_one 8 rfl (by kernel_rfl) .none (oe_store (v := .agg #[.bool nr870, .slice A871 n872 c873]) (vs := [.bool nr870, .slice A871 n872 c873]) (l := [.bool nr870, .slice A871 n872 c873]) (T rfl rfl) (T rfl rfl) sz100 rfl rfl rfl H888 rfl ?_)
           intro w889 s890 H891
           have E892 := below_st E887 N14 s890
           refine ⟨.inr trivial, ?_⟩
           refine aw_done (by kernel_rfl) ?_
           have H893 := (s890.blk (s885.blk H881 (by omega)) (by omega))
           have H894 := (s890.blk H886 (by omega))
           have H895 := (s890.blk (s885.blk (s880.blk (e876.blk (e867.blk (e857.blk (d297.ext.blk n18.blk)))) (by omega)) (by omega)) (by omega))
           have h896 := (((((h855.ext e867).ext e876).st s880 H878 (by decide)).st s885 H883 (by decide)).st s890 H888 (by decide))
           have h897 := ((((h865.ext e876).st s880 H878 (by decide)).st s885 H883 (by decide)).st s890 H888 (by decide))
           have h898 := (((h874.st s880 H878 (by decide)).st s885 H883 (by decide)).st s890 H888 (by decide))
           exact hj76 _ _ ⟨nr851, A852, n853, c854, nr861, A862, n863, c864, nr870, A871, n872, c873, rfl, rfl, rfl, rfl, E892, H893, H894, H891, H895, h896, h897, h898⟩
         · refine id (DV.oe (dv_loads (l := [.bool nb, .slice Ab lb cb]) agt100 sz100 (T rfl rfl) H300 rfl) ?_)
           refine ⟨.inr trivial, ?_⟩
           have h899 := (((((ha.ext n3.ext).ext n8.ext).ext n13.ext).ext n18.ext).ext d297.ext)
           refine aw_one 1 rfl (by kernel_rfl) .none (oe_callf (vs := [.agg #[.bool na, .slice Aa la ca]]) co151 (ar1 (T rfl rfl)) (l1Neg_ok h899 ) ?_)
           rintro _ w905 ⟨nr900, A901, n902, c903, rfl, e906, h904⟩
           have E907 := below_ext E298 E298.size e906
           have lh904 := Num.len (by decide) h904
           refine ⟨.inr trivial, ?_⟩
           have h908 := ((((((hb.ext n3.ext).ext n8.ext).ext n13.ext).ext n18.ext).ext d297.ext).ext e906)
           refine aw_one 3 rfl (by kernel_rfl) .none (oe_callf (vs := [.agg #[.bool nb, .slice Ab lb cb]]) co151 (ar1 (T rfl rfl)) (l1Neg_ok h908 ) ?_)
           rintro _ w914 ⟨nr909, A910, n911, c912, rfl, e915, h913⟩
           have E916 := below_ext E907 E907.size e915
           have lh913 := Num.len (by decide) h913
           refine ⟨.inr trivial, ?_⟩
           have h917 := (((((((hm.ext n3.ext).ext n8.ext).ext n13.ext).ext n18.ext).ext d297.ext).ext e906).ext e915)
           refine aw_one 5 rfl (by kernel_rfl) .none (oe_callf (vs := [.agg #[.bool nm, .slice Am lm cm]]) co151 (ar1 (T rfl rfl)) (l1Neg_ok h917 ) ?_)
           rintro _ w923 ⟨nr918, A919, n920, c921, rfl, e924, h922⟩
           have E925 := below_ext E916 E916.size e924
           have lh922 := Num.len (by decide) h922
           refine ⟨.inr trivial, ?_⟩
           have H926 := (e924.blk (e915.blk (e906.blk H299)))
           refine aw_one 6 rfl (by kernel_rfl) .none (oe_store (v := .agg #[.bool nr900, .slice A901 n902 c903]) (vs := [.bool nr900, .slice A901 n902 c903]) (l := [.bool nr900, .slice A901 n902 c903]) (T rfl rfl) (T rfl rfl) sz100 rfl rfl rfl H926 rfl ?_)
           intro w927 s928 H929
           have E930 := below_st E925 N4 s928
           refine ⟨.inr trivial, ?_⟩
           have H931 := (s928.blk (e924.blk (e915.blk (e906.blk H300))) (by omega))
           refine aw_one 7 rfl (by kernel_rfl) .none (oe_store (v := .agg #[.bool nr909, .slice A910 n911 c912]) (vs := [.bool nr909, .slice A910 n911 c912]) (l := [.bool nr909, .slice A910 n911 c912]) (T rfl rfl) (T rfl rfl) sz100 rfl rfl rfl H931 rfl ?_)
           intro w932 s933 H934
           have E935 := below_st E930 N9 s933
           refine ⟨.inr trivial, ?_⟩
           have H936 := (s933.blk (s928.blk (e924.blk (e915.blk (e906.blk H301))) (by omega)) (by omega))
           refine aw_one 8 rfl (by kernel_rfl) .none (oe_store (v := .agg #[.bool nr918, .slice A919 n920 c921]) (vs := [.bool nr918, .slice A919 n920 c921]) (l := [.bool nr918, .slice A919 n920 c921]) (T rfl rfl) (T rfl rfl) sz100 rfl rfl rfl H936 rfl ?_)
           intro w937 s938 H939
           have E940 := below_st E935 N14 s938
           refine ⟨.inr trivial, ?_⟩
           refine aw_done (by kernel_rfl) ?_
           have H941 := (s938.blk (s933.blk H929 (by omega)) (by omega))
           have H942 := (s938.blk H934 (by omega))
           have H943 := (s938.blk (s933.blk (s928.blk (e924.blk (e915.blk (e906.blk (d297.ext.blk n18.blk)))) (by omega)) (by omega)) (by omega))
           have h944 := (((((h904.ext e915).ext e924).st s928 H926 (by decide)).st s933 H931 (by decide)).st s938 H936 (by decide))
           have h945 := ((((h913.ext e924).st s928 H926 (by decide)).st s933 H931 (by decide)).st s938 H936 (by decide))
           have h946 := (((h922.st s928 H926 (by decide)).st s933 H931 (by decide)).st s938 H936 (by decide))
           exact hj76 _ _ ⟨nr900, A901, n902, c903, nr909, A910, n911, c912, nr918, A919, n920, c921, rfl, rfl, rfl, rfl, E940, H941, H942, H939, H943, h944, h945, h946⟩
       · refine id (DV.oe (dv_loads (l := [.bool nb, .slice Ab lb cb]) agt100 sz100 (T rfl rfl) H300 rfl) ?_)
         refine ⟨.inr trivial, ?_⟩
         refine aw_one 0 rfl (by kernel_rfl) .none (DV.oe (dv_loads (l := [.bool na, .slice Aa la ca]) agt100 sz100 (T rfl rfl) H299 rfl) ?_)
         refine ⟨.inr trivial, ?_⟩
         have h947 := (((((ha.ext n3.ext).ext n8.ext).ext n13.ext).ext n18.ext).ext d297.ext)
         refine aw_one 1 rfl (by kernel_rfl) .none (oe_callf (vs := [.agg #[.bool na, .slice Aa la ca]]) co151 (ar1 (T rfl rfl)) (l1Neg_ok h947 ) ?_)
         rintro _ w953 ⟨nr948, A949, n950, c951, rfl, e954, h952⟩
         have E955 := below_ext E298 E298.size e954
         have lh952 := Num.len (by decide) h952
         refine ⟨.inr trivial, ?_⟩
         have h956 := ((((((hb.ext n3.ext).ext n8.ext).ext n13.ext).ext n18.ext).ext d297.ext).ext e954)
         refine aw_one 3 rfl (by kernel_rfl) .none (oe_callf (vs := [.agg #[.bool nb, .slice Ab lb cb]]) co151 (ar1 (T rfl rfl)) (l1Neg_ok h956 ) ?_)
         rintro _ w962 ⟨nr957, A958, n959, c960, rfl, e963, h961⟩
         have E964 := below_ext E955 E955.size e963
         have lh961 := Num.len (by decide) h961
         refine ⟨.inr trivial, ?_⟩
         have h965 := (((((((hm.ext n3.ext).ext n8.ext).ext n13.ext).ext n18.ext).ext d297.ext).ext e954).ext e963)
         refine aw_one 5 rfl (by kernel_rfl) .none (oe_callf (vs := [.agg #[.bool nm, .slice Am lm cm]]) co151 (ar1 (T rfl rfl)) (l1Neg_ok h965 ) ?_)
         rintro _ w971 ⟨nr966, A967, n968, c969, rfl, e972, h970⟩
         have E973 := below_ext E964 E964.size e972
         have lh970 := Num.len (by decide) h970
         refine ⟨.inr trivial, ?_⟩
         have H974 := (e972.blk (e963.blk (e954.blk H299)))
         refine aw_one 6 rfl (by kernel_rfl) .none (oe_store (v := .agg #[.bool nr948, .slice A949 n950 c951]) (vs := [.bool nr948, .slice A949 n950 c951]) (l := [.bool nr948, .slice A949 n950 c951]) (T rfl rfl) (T rfl rfl) sz100 rfl rfl rfl H974 rfl ?_)
         intro w975 s976 H977
         have E978 := below_st E973 N4 s976
         refine ⟨.inr trivial, ?_⟩
         have H979 := (s976.blk (e972.blk (e963.blk (e954.blk H300))) (by omega))
         refine aw_one 7 rfl (by kernel_rfl) .none (oe_store (v := .agg #[.bool nr957, .slice A958 n959 c960]) (vs := [.bool nr957, .slice A958 n959 c960]) (l := [.bool nr957, .slice A958 n959 c960]) (T rfl rfl) (T rfl rfl) sz100 rfl rfl rfl H979 rfl ?_)
         intro w980 s981 H982
         have E983 := below_st E978 N9 s981
         refine ⟨.inr trivial, ?_⟩
         have H984 := (s981.blk (s976.blk (e972.blk (e963.blk (e954.blk H301))) (by omega)) (by omega))
         refine aw_one 8 rfl (by kernel_rfl) .none (oe_store (v := .agg #[.bool nr966, .slice A967 n968 c969]) (vs := [.bool nr966, .slice A967 n968 c969]) (l := [.bool nr966, .slice A967 n968 c969]) (T rfl rfl) (T rfl rfl) sz100 rfl rfl rfl H984 rfl ?_)
         intro w985 s986 H987
         have E988 := below_st E983 N14 s986
         refine ⟨.inr trivial, ?_⟩
         refine aw_done (by kernel_rfl) ?_
         have H989 := (s986.blk (s981.blk H977 (by omega)) (by omega))
         have H990 := (s986.blk H982 (by omega))
         have H991 := (s986.blk (s981.blk (s976.blk (e972.blk (e963.blk (e954.blk (d297.ext.blk n18.blk)))) (by omega)) (by omega)) (by omega))
         have h992 := (((((h952.ext e963).ext e972).st s976 H974 (by decide)).st s981 H979 (by decide)).st s986 H984 (by decide))
         have h993 := ((((h961.ext e972).st s976 H974 (by decide)).st s981 H979 (by decide)).st s986 H984 (by decide))
         have h994 := (((h970.st s976 H974 (by decide)).st s981 H979 (by decide)).st s986 H984 (by decide))
         exact hj76 _ _ ⟨nr948, A949, n950, c951, nr957, A958, n959, c960, nr966, A967, n968, c969, rfl, rfl, rfl, rfl, E988, H989, H990, H987, H991, h992, h993, h994⟩
 · refine rk_cf (T rfl (congrArg Value.bool hb22)) ?_
   refine rk_skip ?_
   refine rk_seq ?_
   have H995 := (n18.ext.blk (n13.ext.blk (n8.ext.blk n3.blk)))
   have : b1 < w17.heap.size := lt_of_blk H995
   have H996 := (n18.ext.blk (n13.ext.blk n8.blk))
   have : b6 < w17.heap.size := lt_of_blk H996
   have : b11 < w17.heap.size := lt_of_blk H21
   have : b16 < w17.heap.size := lt_of_blk n18.blk
   have : w.heap.size ≤ w17.heap.size := E20.size
   refine rk_par2 [fun vq wq_ => vq = .agg #[.bool na, .slice Aa la ca], fun vq wq_ => vq = .agg #[.bool nb, .slice Ab lb cb], fun vq wq_ => ∃ (nr1021 : Bool) (A1022 : Option Addr) (n1023 : Nat) (c1024 : Nat), vq = .agg #[.bool nr1021, .slice A1022 n1023 c1024] ∧ Num 32 183 .u32 wq_ nr1021 A1022 n1023 c1024 (gI x y) ((max sx sy)), fun vq wq_ => vq = .agg #[.bool nm, .slice Am lm cm], fun vq wq_ => ∃ (nr1050 : Bool) (A1051 : Option Addr) (n1052 : Nat) (c1053 : Nat), vq = .agg #[.bool nr1050, .slice A1051 n1052 c1053] ∧ Num 32 183 .u32 wq_ nr1050 A1051 n1052 c1053 (gI (gI x y) u) ((max (max sx sy) su)), fun _ _ => True, fun _ _ => True] [⟨5, 6, 4, 100, #[.bool false, .slice none 0 0]⟩] [100] mo (by kernel_rfl) (by kernel_rfl) ?_ ?_ ?_ ?_ ?_
   · intro e he e2 he2 h; simp only [List.mem_cons, List.not_mem_nil, or_false] at he he2; rcases he with rfl <;> rcases he2 with rfl <;> first | rfl | exact absurd h (by decide)
   · exact ⟨⟨fun v w w2 e h => h, fun v w w2 b cs T fz s hb hT h => h⟩, ⟨fun v w w2 e h => h, fun v w w2 b cs T fz s hb hT h => h⟩, ⟨fun v w w2 e ⟨nr1021, A1022, n1023, c1024, hv, h0_⟩ => ⟨nr1021, A1022, n1023, c1024, hv, h0_.ext e⟩, fun v w w2 b cs T fz s hb hT ⟨nr1021, A1022, n1023, c1024, hv, h0_⟩ => ⟨nr1021, A1022, n1023, c1024, hv, h0_.st s hb (ts_ne hT (by decide))⟩⟩, ⟨fun v w w2 e h => h, fun v w w2 b cs T fz s hb hT h => h⟩, ⟨fun v w w2 e ⟨nr1050, A1051, n1052, c1053, hv, h0_⟩ => ⟨nr1050, A1051, n1052, c1053, hv, h0_.ext e⟩, fun v w w2 b cs T fz s hb hT ⟨nr1050, A1051, n1052, c1053, hv, h0_⟩ => ⟨nr1050, A1051, n1052, c1053, hv, h0_.st s hb (ts_ne hT (by decide))⟩⟩, ⟨fun v w w2 e h => h, fun v w w2 b cs T fz s hb hT h => h⟩, ⟨fun v w w2 e h => h, fun v w w2 b cs T fz s hb hT h => h⟩, trivial⟩
   · refine ⟨?_, ?_, ?_, ?_, ?_, ?_, ?_, trivial⟩
     · refine .inr ⟨by kernel_rfl, ?_⟩
       intro fr998 w997 e999 hF1000 hD1001
       have E1002 := below_ext E20 E20.size e999
       have H1003 := (e999.blk H995)
       exact DV.oe (dv_loads (l := [.bool na, .slice Aa la ca]) agt100 sz100 (T rfl (hF1000 3 (by kernel_rfl))) H1003 rfl) ⟨Below.refl _ _, rfl⟩
     · refine .inr ⟨by kernel_rfl, ?_⟩
       intro fr1005 w1004 e1006 hF1007 hD1008
       have E1009 := below_ext E20 E20.size e1006
       have H1010 := (e1006.blk H996)
       exact DV.oe (dv_loads (l := [.bool nb, .slice Ab lb cb]) agt100 sz100 (T rfl (hF1007 4 (by kernel_rfl))) H1010 rfl) ⟨Below.refl _ _, rfl⟩
     · refine .inr ⟨by kernel_rfl, ?_⟩
       intro fr1012 w1011 e1013 hF1014 hD1015
       have E1016 := below_ext E20 E20.size e1013
       have hv1017 : fr1012 16 = .agg #[.bool na, .slice Aa la ca] := hD1015 0 _ (by kernel_rfl) rfl (by kernel_rfl)
       have hv1018 : fr1012 17 = .agg #[.bool nb, .slice Ab lb cb] := hD1015 1 _ (by kernel_rfl) rfl (by kernel_rfl)
       have h1019 := (((((ha.ext n3.ext).ext n8.ext).ext n13.ext).ext n18.ext).ext e1013)
       have h1020 := (((((hb.ext n3.ext).ext n8.ext).ext n13.ext).ext n18.ext).ext e1013)
       refine id (oe_callf (vs := [.agg #[.bool na, .slice Aa la ca], .agg #[.bool nb, .slice Ab lb cb]]) co129 (ar2 (T rfl hv1017) (T rfl hv1018)) (l1Gcd_ok h1019 h1020 (by first | decide | omega) (by first | decide | omega)) ?_)
       rintro _ w1026 ⟨nr1021, A1022, n1023, c1024, rfl, e1027, h1025⟩
       have E1028 := below_ext E1016 E1016.size e1027
       have lh1025 := Num.len (by decide) h1025
       exact ⟨e1027, nr1021, A1022, n1023, c1024, rfl, h1025⟩
     · refine .inr ⟨by kernel_rfl, ?_⟩
       intro fr1030 w1029 e1031 hF1032 hD1033
       have E1034 := below_ext E20 E20.size e1031
       have H1035 := (e1031.blk H21)
       exact DV.oe (dv_loads (l := [.bool nm, .slice Am lm cm]) agt100 sz100 (T rfl (hF1032 5 (by kernel_rfl))) H1035 rfl) ⟨Below.refl _ _, rfl⟩
     · refine .inr ⟨by kernel_rfl, ?_⟩
       intro fr1037 w1036 e1038 hF1039 hD1040
       have E1041 := below_ext E20 E20.size e1038
       obtain ⟨nr1042, A1043, n1044, c1045, hv1046, hp1047⟩ : ∃ (nr1021 : Bool) (A1022 : Option Addr) (n1023 : Nat) (c1024 : Nat), fr1037 18 = .agg #[.bool nr1021, .slice A1022 n1023 c1024] ∧ Num 32 183 .u32 w1036 nr1021 A1022 n1023 c1024 (gI x y) ((max sx sy)) := hD1040 2 _ (by kernel_rfl) rfl (by kernel_rfl)
       have lhp1047 := Num.len (by decide) hp1047
       have hv1048 : fr1037 19 = .agg #[.bool nm, .slice Am lm cm] := hD1040 3 _ (by kernel_rfl) rfl (by kernel_rfl)
       have h1049 := (((((hm.ext n3.ext).ext n8.ext).ext n13.ext).ext n18.ext).ext e1038)
       refine id (oe_callf (vs := [.agg #[.bool nr1042, .slice A1043 n1044 c1045], .agg #[.bool nm, .slice Am lm cm]]) co129 (ar2 (T rfl hv1046) (T rfl hv1048)) (l1Gcd_ok hp1047 h1049 (by first | decide | omega) (by first | decide | omega)) ?_)
       rintro _ w1055 ⟨nr1050, A1051, n1052, c1053, rfl, e1056, h1054⟩
       have E1057 := below_ext E1041 E1041.size e1056
       have lh1054 := Num.len (by decide) h1054
       exact ⟨e1056, nr1050, A1051, n1052, c1053, rfl, h1054⟩
     · exact .inl (.inr ⟨by kernel_rfl, fun _ _ => trivial⟩)
     · exact .inl (.inl (by kernel_rfl))
   · refine ⟨⟨⟨_, rfl, fun _ _ => oe_alloc ze100 fun b w hn => ⟨b, rfl, hn⟩⟩, ⟨_, rfl, ?_⟩⟩, trivial⟩
     · intro fr1059 w1058 b1063 e1060 hF1061 hD1062 hA1064 hB1065
       have E1066 := below_ext E20 E20.size e1060
       obtain ⟨nr1067, A1068, n1069, c1070, hv1071, hp1072⟩ : ∃ (nr1050 : Bool) (A1051 : Option Addr) (n1052 : Nat) (c1053 : Nat), fr1059 20 = .agg #[.bool nr1050, .slice A1051 n1052 c1053] ∧ Num 32 183 .u32 w1058 nr1050 A1051 n1052 c1053 (gI (gI x y) u) ((max (max sx sy) su)) := hD1062 4 _ (by kernel_rfl) rfl (by kernel_rfl)
       have lhp1072 := Num.len (by decide) hp1072
       refine id (oe_store (v := .agg #[.bool nr1067, .slice A1068 n1069 c1070]) (vs := [.bool nr1067, .slice A1068 n1069 c1070]) (l := [.bool nr1067, .slice A1068 n1069 c1070]) (T rfl hA1064) (T rfl hv1071) sz100 rfl rfl rfl hB1065 rfl ?_)
       intro w1073 s1074 H1075
       exact ⟨s1074, H1075.trans (congrArg (fun v : Value => some (Obj.cells v.cells 100)) (show fr1059 20 = _ from hv1071).symm)⟩
   intro fr1078 w1077 e1079 hF1080 hP1081 hM1082 hN1083
   have E1084 := below_ext E20 E20.size e1079
   obtain ⟨_, _, _, _, p1085, _, _, _⟩ := hP1081
   obtain ⟨nr1086, A1087, n1088, c1089, hv1090, hp1091⟩ : ∃ (nr1050 : Bool) (A1051 : Option Addr) (n1052 : Nat) (c1053 : Nat), fr1078 20 = .agg #[.bool nr1050, .slice A1051 n1052 c1053] ∧ Num 32 183 .u32 w1077 nr1050 A1051 n1052 c1053 (gI (gI x y) u) ((max (max sx sy) su)) := p1085.resolve_left (nst (by kernel_rfl))
   have lhp1091 := Num.len (by decide) hp1091
   obtain ⟨⟨b1092, hA1093, hB1094, hC1095⟩, _⟩ := hM1082
   have H1096 : w1077.heap[b1092]? = some (.cells #[.bool nr1086, .slice A1087 n1088 c1089] 100) := hC1095.trans (congrArg (fun v : Value => some (Obj.cells v.cells 100)) hv1090)
   have N1097 : w.heap.size ≤ b1092 := by omega
   refine rk_seq ?_
   refine rk_seq ?_
   refine rk_any (fun w => w.heap[b1092]? = some (.cells #[.bool nr1086, .slice A1087 n1088 c1089] 100)) [] mo ?_
   intro w1098 d1099
   have E1100 := below_ext E1084 E1084.size d1099.ext
   have H1101 := (d1099.ext.blk H1096)
   refine aw_load 0 (.agg #[.bool nr1086, .slice A1087 n1088 c1089]) rfl (by kernel_rfl) .none H1101 (fun _ s => dv_loads (l := [.bool nr1086, .slice A1087 n1088 c1089]) agt100 sz100 (T rfl hA1093) s rfl) ?_
   refine aw_one 1 rfl (by kernel_rfl) .none (oe_callf (vs := [.int .i64 1]) co100 (ar1 C) (l1Int_ok  (by omega)) ?_)
   rintro _ w1107 ⟨nr1102, A1103, n1104, c1105, rfl, e1108, h1106⟩
   have E1109 := below_ext E1100 E1100.size e1108
   have lh1106 := Num.len (by decide) h1106
   have H1110 := (e1108.blk H1101)
   refine ⟨.inr H1110, ?_⟩
   have h1111 := ((hp1091.ext d1099.ext).ext e1108)
   refine aw_one 2 rfl (by kernel_rfl) .none (oe_callf (vs := [.agg #[.bool nr1086, .slice A1087 n1088 c1089], .agg #[.bool nr1102, .slice A1103 n1104 c1105]]) co128 (ar2 (T rfl rfl) (T rfl rfl)) (l1Cmp_ok h1111 h1106 (by first | decide | omega) (by first | decide | omega)) ?_)
   rintro _ w1112 ⟨rfl, e1113⟩
   have E1114 := below_ext E1109 E1109.size e1113
   have H1115 := (e1113.blk H1110)
   refine ⟨.inr H1115, ?_⟩
   refine aw_pure 3 (.bool (decide ((sgnI ((gI (gI x y) u) - 1)) ≠ 0))) rfl (by kernel_rfl) .none H1115 (fun _ => dv_neq (a := sgnI ((gI (gI x y) u) - 1)) (b := 0) (T rfl rfl) C) ?_
   refine aw_done (by kernel_rfl) ?_
   by_cases hb1116 : (sgnI ((gI (gI x y) u) - 1)) ≠ 0
   · refine rk_ct (T rfl (congrArg Value.bool (decide_eq_true hb1116))) ?_
     refine rk_seq ?_
     refine rk_reg ?_
     have H1117 := (e1113.blk (e1108.blk (d1099.ext.blk (e1079.blk H995))))
     refine lw_v (.agg #[.bool na, .slice Aa la ca]) (dv_loads (l := [.bool na, .slice Aa la ca]) agt100 sz100 (T rfl (hF1080 3 rfl)) H1117 rfl) ?_
     refine lw_v (.agg #[.bool nr1086, .slice A1087 n1088 c1089]) (dv_loads (l := [.bool nr1086, .slice A1087 n1088 c1089]) agt100 sz100 (T rfl hA1093) H1115 rfl) ?_
     have h1118 := ((((((((ha.ext n3.ext).ext n8.ext).ext n13.ext).ext n18.ext).ext e1079).ext d1099.ext).ext e1108).ext e1113)
     have h1119 := (h1111.ext e1113)
     refine lw_e (oe_callf (vs := [.agg #[.bool na, .slice Aa la ca], .agg #[.bool nr1086, .slice A1087 n1088 c1089]]) co152 (ar2 (T rfl rfl) (T rfl rfl)) (l1Div_ok h1118 h1119 (Int.ne_of_gt (gI_pos hu)) (by first | decide | omega) (by first | decide | omega)) ?_)
     rintro _ w1130 ⟨nr1120, A1121, n1122, c1123, nr1124, A1125, n1126, c1127, rfl, e1131, h1128, h1129⟩
     have E1132 := below_ext E1114 E1114.size e1131
     have lh1128 := Num.len (by decide) h1128
     have lh1129 := Num.len (by decide) h1129
     refine lw_v (.tuple #[.agg #[.bool nr1120, .slice A1121 n1122 c1123], .agg #[.bool nr1124, .slice A1125 n1126 c1127]]) (dv_move (T rfl rfl)) ?_
     refine lw_v (.agg #[.bool nr1120, .slice A1121 n1122 c1123]) (dv_extract (vs := #[.agg #[.bool nr1120, .slice A1121 n1122 c1123], .agg #[.bool nr1124, .slice A1125 n1126 c1127]]) (T rfl rfl) rfl) ?_
     refine lw_v (.agg #[.bool nr1124, .slice A1125 n1126 c1127]) (dv_extract (vs := #[.agg #[.bool nr1120, .slice A1121 n1122 c1123], .agg #[.bool nr1124, .slice A1125 n1126 c1127]]) (T rfl rfl) rfl) ?_
     have H1133 := (e1131.blk H1117)
     refine lw_e (oe_store (v := .agg #[.bool nr1120, .slice A1121 n1122 c1123]) (vs := [.bool nr1120, .slice A1121 n1122 c1123]) (l := [.bool nr1120, .slice A1121 n1122 c1123]) (T rfl (hF1080 3 rfl)) (T rfl rfl) sz100 rfl rfl rfl H1133 rfl ?_)
     intro w1134 s1135 H1136
     have E1137 := below_st E1132 N4 s1135
     refine lw_nil ?_
     refine rk_seq ?_
     refine rk_reg ?_
     have H1138 := (s1135.blk (e1131.blk (e1113.blk (e1108.blk (d1099.ext.blk (e1079.blk H996))))) (by omega))
     refine lw_v (.agg #[.bool nb, .slice Ab lb cb]) (dv_loads (l := [.bool nb, .slice Ab lb cb]) agt100 sz100 (T rfl (hF1080 4 rfl)) H1138 rfl) ?_
     have H1139 := (s1135.blk (e1131.blk H1115) (by omega))
     refine lw_v (.agg #[.bool nr1086, .slice A1087 n1088 c1089]) (dv_loads (l := [.bool nr1086, .slice A1087 n1088 c1089]) agt100 sz100 (T rfl hA1093) H1139 rfl) ?_
     have h1140 := hb.ext E1137
     have h1141 := ((h1119.ext e1131).st s1135 H1133 (by decide))
     refine lw_e (oe_callf (vs := [.agg #[.bool nb, .slice Ab lb cb], .agg #[.bool nr1086, .slice A1087 n1088 c1089]]) co152 (ar2 (T rfl rfl) (T rfl rfl)) (l1Div_ok h1140 h1141 (Int.ne_of_gt (gI_pos hu)) (by first | decide | omega) (by first | decide | omega)) ?_)
     rintro _ w1152 ⟨nr1142, A1143, n1144, c1145, nr1146, A1147, n1148, c1149, rfl, e1153, h1150, h1151⟩
     have E1154 := below_ext E1137 E1137.size e1153
     have lh1150 := Num.len (by decide) h1150
     have lh1151 := Num.len (by decide) h1151
     refine lw_v (.tuple #[.agg #[.bool nr1142, .slice A1143 n1144 c1145], .agg #[.bool nr1146, .slice A1147 n1148 c1149]]) (dv_move (T rfl rfl)) ?_
     refine lw_v (.agg #[.bool nr1142, .slice A1143 n1144 c1145]) (dv_extract (vs := #[.agg #[.bool nr1142, .slice A1143 n1144 c1145], .agg #[.bool nr1146, .slice A1147 n1148 c1149]]) (T rfl rfl) rfl) ?_
     refine lw_v (.agg #[.bool nr1146, .slice A1147 n1148 c1149]) (dv_extract (vs := #[.agg #[.bool nr1142, .slice A1143 n1144 c1145], .agg #[.bool nr1146, .slice A1147 n1148 c1149]]) (T rfl rfl) rfl) ?_
     have H1155 := (e1153.blk H1138)
     refine lw_e (oe_store (v := .agg #[.bool nr1142, .slice A1143 n1144 c1145]) (vs := [.bool nr1142, .slice A1143 n1144 c1145]) (l := [.bool nr1142, .slice A1143 n1144 c1145]) (T rfl (hF1080 4 rfl)) (T rfl rfl) sz100 rfl rfl rfl H1155 rfl ?_)
     intro w1156 s1157 H1158
     have E1159 := below_st E1154 N9 s1157
     refine lw_nil ?_
     refine rk_reg ?_
     have H1160 := (s1157.blk (e1153.blk (s1135.blk (e1131.blk (e1113.blk (e1108.blk (d1099.ext.blk (e1079.blk H21))))) (by omega))) (by omega))
     refine lw_v (.agg #[.bool nm, .slice Am lm cm]) (dv_loads (l := [.bool nm, .slice Am lm cm]) agt100 sz100 (T rfl (hF1080 5 rfl)) H1160 rfl) ?_
     have H1161 := (s1157.blk (e1153.blk H1139) (by omega))
     refine lw_v (.agg #[.bool nr1086, .slice A1087 n1088 c1089]) (dv_loads (l := [.bool nr1086, .slice A1087 n1088 c1089]) agt100 sz100 (T rfl hA1093) H1161 rfl) ?_
     have h1162 := hm.ext E1159
     have h1163 := ((h1141.ext e1153).st s1157 H1155 (by decide))
     refine lw_e (oe_callf (vs := [.agg #[.bool nm, .slice Am lm cm], .agg #[.bool nr1086, .slice A1087 n1088 c1089]]) co152 (ar2 (T rfl rfl) (T rfl rfl)) (l1Div_ok h1162 h1163 (Int.ne_of_gt (gI_pos hu)) (by first | decide | omega) (by first | decide | omega)) ?_)
     rintro _ w1174 ⟨nr1164, A1165, n1166, c1167, nr1168, A1169, n1170, c1171, rfl, e1175, h1172, h1173⟩
     have E1176 := below_ext E1159 E1159.size e1175
     have lh1172 := Num.len (by decide) h1172
     have lh1173 := Num.len (by decide) h1173
     refine lw_v (.tuple #[.agg #[.bool nr1164, .slice A1165 n1166 c1167], .agg #[.bool nr1168, .slice A1169 n1170 c1171]]) (dv_move (T rfl rfl)) ?_
     refine lw_v (.agg #[.bool nr1164, .slice A1165 n1166 c1167]) (dv_extract (vs := #[.agg #[.bool nr1164, .slice A1165 n1166 c1167], .agg #[.bool nr1168, .slice A1169 n1170 c1171]]) (T rfl rfl) rfl) ?_
     refine lw_v (.agg #[.bool nr1168, .slice A1169 n1170 c1171]) (dv_extract (vs := #[.agg #[.bool nr1164, .slice A1165 n1166 c1167], .agg #[.bool nr1168, .slice A1169 n1170 c1171]]) (T rfl rfl) rfl) ?_
     have H1177 := (e1175.blk H1160)
     refine lw_e (oe_store (v := .agg #[.bool nr1164, .slice A1165 n1166 c1167]) (vs := [.bool nr1164, .slice A1165 n1166 c1167]) (l := [.bool nr1164, .slice A1165 n1166 c1167]) (T rfl (hF1080 5 rfl)) (T rfl rfl) sz100 rfl rfl rfl H1177 rfl ?_)
     intro w1178 s1179 H1180
     have E1181 := below_st E1176 N14 s1179
     refine lw_nil ?_
     refine rk_seq ?_
     refine rk_reg ?_
     have H1182 := (s1179.blk (e1175.blk (s1157.blk (e1153.blk H1136) (by omega))) (by omega))
     refine lw_v (.agg #[.bool nr1120, .slice A1121 n1122 c1123]) (dv_loads (l := [.bool nr1120, .slice A1121 n1122 c1123]) agt100 sz100 (T rfl (hF1080 3 rfl)) H1182 rfl) ?_
     have H1183 := (s1179.blk (e1175.blk H1158) (by omega))
     refine lw_v (.agg #[.bool nr1142, .slice A1143 n1144 c1145]) (dv_loads (l := [.bool nr1142, .slice A1143 n1144 c1145]) agt100 sz100 (T rfl (hF1080 4 rfl)) H1183 rfl) ?_
     refine lw_v (.agg #[.bool nr1164, .slice A1165 n1166 c1167]) (dv_loads (l := [.bool nr1164, .slice A1165 n1166 c1167]) agt100 sz100 (T rfl (hF1080 5 rfl)) H1180 rfl) ?_
     refine lw_v (.agg #[.bool nr1120, .slice A1121 n1122 c1123, .bool nr1142, .slice A1143 n1144 c1145, .bool nr1164, .slice A1165 n1166 c1167]) (dv_build (pv := [(0, .agg #[.bool nr1120, .slice A1121 n1122 c1123]), (1, .agg #[.bool nr1142, .slice A1143 n1144 c1145]), (2, .agg #[.bool nr1164, .slice A1165 n1166 c1167])]) (l := [.bool nr1120, .slice A1121 n1122 c1123, .bool nr1142, .slice A1143 n1144 c1145, .bool nr1164, .slice A1165 n1166 c1167]) zc102 pl102 ⟨rfl, (T rfl rfl), ⟨rfl, (T rfl rfl), ⟨rfl, (T rfl rfl), trivial⟩⟩⟩ rfl) ?_
     have H1184 := (s1179.blk (e1175.blk (s1157.blk (e1153.blk (s1135.blk (e1131.blk (e1113.blk (e1108.blk (d1099.ext.blk (e1079.blk n18.blk))))) (by omega))) (by omega))) (by omega))
     refine lw_e (oe_store (v := .agg #[.bool nr1120, .slice A1121 n1122 c1123, .bool nr1142, .slice A1143 n1144 c1145, .bool nr1164, .slice A1165 n1166 c1167]) (vs := [.bool nr1120, .slice A1121 n1122 c1123, .bool nr1142, .slice A1143 n1144 c1145, .bool nr1164, .slice A1165 n1166 c1167]) (l := [.bool nr1120, .slice A1121 n1122 c1123, .bool nr1142, .slice A1143 n1144 c1145, .bool nr1164, .slice A1165 n1166 c1167]) (T rfl (hF1080 6 rfl)) (T rfl rfl) sz102 rfl rfl rfl H1184 rfl ?_)
     intro w1185 s1186 H1187
     have E1188 := below_st E1181 N19 s1186
     refine lw_nil ?_
     refine rk_ret Try.func97 (v := .agg #[.bool nr1120, .slice A1121 n1122 c1123, .bool nr1142, .slice A1143 n1144 c1145, .bool nr1164, .slice A1165 n1166 c1167]) (res1 Try.results97 (rv_cells (l := [.bool nr1120, .slice A1121 n1122 c1123, .bool nr1142, .slice A1143 n1144 c1145, .bool nr1164, .slice A1165 n1166 c1167]) agt102 sz102 rfl (hF1080 6 rfl) H1187 rfl)) ⟨_, rfl, ?_⟩
     have h1189 := ((((((h1128.st s1135 H1133 (by decide)).ext e1153).st s1157 H1155 (by decide)).ext e1175).st s1179 H1177 (by decide)).st s1186 H1184 (by decide))
     have h1190 := ((((h1150.st s1157 H1155 (by decide)).ext e1175).st s1179 H1177 (by decide)).st s1186 H1184 (by decide))
     have h1191 := ((h1172.st s1179 H1177 (by decide)).st s1186 H1184 (by decide))
     exact ⟨_, _, _, _, _, _, _, _, _, _, _, _, rfl, E1188, h1189.to ((by have hgn : gI (gI x y) u = gI3 x y u := (by unfold gI3; rfl); unfold pPt; rw [if_neg (fun hh => by have := hm.neg_iff.2 hh; simp_all), hgn])) (Nat.le_refl _), h1190.to ((by have hgn : gI (gI x y) u = gI3 x y u := (by unfold gI3; rfl); unfold pPt; rw [if_neg (fun hh => by have := hm.neg_iff.2 hh; simp_all), hgn])) (Nat.le_refl _), h1191.to ((by have hgn : gI (gI x y) u = gI3 x y u := (by unfold gI3; rfl); unfold pPt; rw [if_neg (fun hh => by have := hm.neg_iff.2 hh; simp_all), hgn])) (Nat.le_refl _)⟩
   · refine rk_cf (T rfl (congrArg Value.bool (decide_eq_false hb1116))) ?_
     refine rk_skip ?_
     refine rk_seq ?_
     refine rk_reg ?_
     have H1192 := (e1113.blk (e1108.blk (d1099.ext.blk (e1079.blk H995))))
     refine lw_v (.agg #[.bool na, .slice Aa la ca]) (dv_loads (l := [.bool na, .slice Aa la ca]) agt100 sz100 (T rfl (hF1080 3 rfl)) H1192 rfl) ?_
     have H1193 := (e1113.blk (e1108.blk (d1099.ext.blk (e1079.blk H996))))
     refine lw_v (.agg #[.bool nb, .slice Ab lb cb]) (dv_loads (l := [.bool nb, .slice Ab lb cb]) agt100 sz100 (T rfl (hF1080 4 rfl)) H1193 rfl) ?_
     have H1194 := (e1113.blk (e1108.blk (d1099.ext.blk (e1079.blk H21))))
     refine lw_v (.agg #[.bool nm, .slice Am lm cm]) (dv_loads (l := [.bool nm, .slice Am lm cm]) agt100 sz100 (T rfl (hF1080 5 rfl)) H1194 rfl) ?_
     refine lw_v (.agg #[.bool na, .slice Aa la ca, .bool nb, .slice Ab lb cb, .bool nm, .slice Am lm cm]) (dv_build (pv := [(0, .agg #[.bool na, .slice Aa la ca]), (1, .agg #[.bool nb, .slice Ab lb cb]), (2, .agg #[.bool nm, .slice Am lm cm])]) (l := [.bool na, .slice Aa la ca, .bool nb, .slice Ab lb cb, .bool nm, .slice Am lm cm]) zc102 pl102 ⟨rfl, (T rfl rfl), ⟨rfl, (T rfl rfl), ⟨rfl, (T rfl rfl), trivial⟩⟩⟩ rfl) ?_
     have H1195 := (e1113.blk (e1108.blk (d1099.ext.blk (e1079.blk n18.blk))))
     refine lw_e (oe_store (v := .agg #[.bool na, .slice Aa la ca, .bool nb, .slice Ab lb cb, .bool nm, .slice Am lm cm]) (vs := [.bool na, .slice Aa la ca, .bool nb, .slice Ab lb cb, .bool nm, .slice Am lm cm]) (l := [.bool na, .slice Aa la ca, .bool nb, .slice Ab lb cb, .bool nm, .slice Am lm cm]) (T rfl (hF1080 6 rfl)) (T rfl rfl) sz102 rfl rfl rfl H1195 rfl ?_)
     intro w1196 s1197 H1198
     have E1199 := below_st E1114 N19 s1197
     refine lw_nil ?_
     refine rk_ret Try.func97 (v := .agg #[.bool na, .slice Aa la ca, .bool nb, .slice Ab lb cb, .bool nm, .slice Am lm cm]) (res1 Try.results97 (rv_cells (l := [.bool na, .slice Aa la ca, .bool nb, .slice Ab lb cb, .bool nm, .slice Am lm cm]) agt102 sz102 rfl (hF1080 6 rfl) H1198 rfl)) ⟨_, rfl, ?_⟩
     have h1200 := ha.ext E1199
     have h1201 := hb.ext E1199
     have h1202 := hm.ext E1199
     exact ⟨_, _, _, _, _, _, _, _, _, _, _, _, rfl, E1199, h1200.to ((by have hgn : gI (gI x y) u = gI3 x y u := (by unfold gI3; rfl); have h1 : gI (gI x y) u = 1 := (by have := @sgnI_zero (gI (gI x y) u - 1); omega); unfold pPt; rw [if_neg (fun hh => by have := hm.neg_iff.2 hh; simp_all), ← hgn, h1, Int.ediv_one])) (Nat.le_refl _), h1201.to ((by have hgn : gI (gI x y) u = gI3 x y u := (by unfold gI3; rfl); have h1 : gI (gI x y) u = 1 := (by have := @sgnI_zero (gI (gI x y) u - 1); omega); unfold pPt; rw [if_neg (fun hh => by have := hm.neg_iff.2 hh; simp_all), ← hgn, h1, Int.ediv_one])) (Nat.le_refl _), h1202.to ((by have hgn : gI (gI x y) u = gI3 x y u := (by unfold gI3; rfl); have h1 : gI (gI x y) u = 1 := (by have := @sgnI_zero (gI (gI x y) u - 1); omega); unfold pPt; rw [if_neg (fun hh => by have := hm.neg_iff.2 hh; simp_all), ← hgn, h1, Int.ediv_one])) (Nat.le_refl _)⟩
set_option maxHeartbeats 1000000 in
theorem l3Point_ok {w : World}  {na : Bool} {Aa : Option Addr} {la ca : Nat} {x : Int} {sx : Nat} (ha : Num 32 183 .u32 w na Aa la ca x sx) {nb : Bool} {Ab : Option Addr} {lb cb : Nat} {y : Int} {sy : Nat} (hb : Num 32 183 .u32 w nb Ab lb cb y sy) {nm : Bool} {Am : Option Addr} {lm cm : Nat} {u : Int} {su : Nat} (hm : Num 32 183 .u32 w nm Am lm cm u su) (hbsx : sx ≤ 100000) (hbsy : sy ≤ 100000) (hbsu : su ≤ 100000)  : Ct Try.prog 96 [.agg #[.bool na, .slice Aa la ca, .bool nb, .slice Ab lb cb, .bool nm, .slice Am lm cm]] w fun v w1 => v = .tuple #[.agg #[.int .u64 (wv3 (pkz (sm3 x y u) x)), .int .u64 (wv2 (pkz (sm3 x y u) x)), .int .u64 (wv1 (pkz (sm3 x y u) x)), .int .u64 (wv0 (pkz (sm3 x y u) x)), .int .u64 (wv3 (pkz (sm3 x y u) y)), .int .u64 (wv2 (pkz (sm3 x y u) y)), .int .u64 (wv1 (pkz (sm3 x y u) y)), .int .u64 (wv0 (pkz (sm3 x y u) y)), .int .u64 (wv3 (pkz (sm3 x y u) u)), .int .u64 (wv2 (pkz (sm3 x y u) u)), .int .u64 (wv1 (pkz (sm3 x y u) u)), .int .u64 (wv0 (pkz (sm3 x y u) u))], .bool (decide (sm3 x y u))] ∧ Ext w w1 := by
 refine ct_run (n := 36) Try.func96 rfl Try.ntmps96 rfl ?_
 have E0 : Below w.heap.size w w := Below.refl _ _
 have lha := Num.len (by decide) ha
 have lhb := Num.len (by decide) hb
 have lhm := Num.len (by decide) hm
 refine rk_seq ?_
 refine rk_reg ?_
 refine lw_e (oe_box (v := .agg #[.bool na, .slice Aa la ca, .bool nb, .slice Ab lb cb, .bool nm, .slice Am lm cm]) (cs := #[.bool na, .slice Aa la ca, .bool nb, .slice Ab lb cb, .bool nm, .slice Am lm cm]) (T rfl rfl) rfl ?_)
 intro b1 w2 n3
 have N4 : w.heap.size ≤ b1 := n3.eq ▸ E0.size
 have E5 := below_ext E0 E0.size n3.ext
 refine lw_e (oe_alloc ze37 ?_)
 intro b6 w7 n8
 have N9 : w.heap.size ≤ b6 := n8.eq ▸ E5.size
 have : b1 < b6 := n8.eq ▸ lt_of_blk n3.blk
 have E10 := below_ext E5 E5.size n8.ext
 refine lw_v (.bool false) (dv_assign C) ?_
 refine lw_nil ?_
 refine rk_seq ?_
 refine rk_seq ?_
 refine rk_reg ?_
 have H11 := (n8.ext.blk n3.blk)
 refine lw_v (.agg #[.bool na, .slice Aa la ca, .bool nb, .slice Ab lb cb, .bool nm, .slice Am lm cm]) (dv_loads (l := [.bool na, .slice Aa la ca, .bool nb, .slice Ab lb cb, .bool nm, .slice Am lm cm]) agt102 sz102 (T rfl rfl) H11 rfl) ?_
 have h12 := ((ha.ext n3.ext).ext n8.ext)
 have h13 := ((hb.ext n3.ext).ext n8.ext)
 have h14 := ((hm.ext n3.ext).ext n8.ext)
 refine lw_e (oe_callf (vs := [.agg #[.bool na, .slice Aa la ca, .bool nb, .slice Ab lb cb, .bool nm, .slice Am lm cm]]) co127 (ar1 (T rfl rfl)) (l3Small_ok h12 h13 h14 (by first | decide | omega) (by first | decide | omega) (by first | decide | omega) ) ?_)
 rintro _ w15 ⟨rfl, e16⟩
 have E17 := below_ext E10 E10.size e16
 refine lw_v (.bool (decide (¬ (sm3 x y u)))) (dv_notd (p := sm3 x y u) (T rfl rfl)) ?_
 refine lw_nil ?_
 by_cases hb18 : sm3 x y u
 · refine rk_cf (T rfl (congrArg Value.bool (decide_eq_false (not_not_intro hb18)))) ?_
   refine rk_skip ?_
   refine rk_seq ?_
   refine rk_reg ?_
   refine lw_v (.pointer (some ⟨b1, 0, none⟩)) (dv_fieldAddr (a := ⟨b1, 0, none⟩) (a' := ⟨b1, 0, none⟩) fo102_0 (T rfl rfl) rfl) ?_
   have H19 := (e16.blk H11)
   refine lw_v (.agg #[.bool na, .slice Aa la ca]) (dv_loads (l := [.bool na, .slice Aa la ca]) agt100 sz100 (T rfl rfl) H19 rfl) ?_
   have h20 := (h12.ext e16)
   refine lw_e (oe_callf (vs := [.agg #[.bool na, .slice Aa la ca]]) co150 (ar1 (T rfl rfl)) (l1Wide_ok h20 (by first | decide | omega)) ?_)
   rintro _ w22 ⟨rfl, e23⟩
   have E24 := below_ext E17 E17.size e23
   have bw21 := w_rg (x)
   refine lw_v (.tuple #[.agg #[.int .u64 (wv3 x), .int .u64 (wv2 x), .int .u64 (wv1 x), .int .u64 (wv0 x)], .bool (decide (fits x))]) (dv_move (T rfl rfl)) ?_
   refine lw_v (.agg #[.int .u64 (wv3 x), .int .u64 (wv2 x), .int .u64 (wv1 x), .int .u64 (wv0 x)]) (dv_extract (vs := #[.agg #[.int .u64 (wv3 x), .int .u64 (wv2 x), .int .u64 (wv1 x), .int .u64 (wv0 x)], .bool (decide (fits x))]) (T rfl rfl) rfl) ?_
   refine lw_v (.bool (decide (fits x))) (dv_extract (vs := #[.agg #[.int .u64 (wv3 x), .int .u64 (wv2 x), .int .u64 (wv1 x), .int .u64 (wv0 x)], .bool (decide (fits x))]) (T rfl rfl) rfl) ?_
   refine lw_e (oe_alloc ze35 ?_)
   intro b25 w26 n27
   have N28 : w.heap.size ≤ b25 := n27.eq ▸ E24.size
   have H29 := (e23.blk (e16.blk n8.blk))
   have : b6 < b25 := n27.eq ▸ lt_of_blk H29
   have E30 := below_ext E24 E24.size n27.ext
   refine lw_e (oe_store (v := .agg #[.int .u64 (wv3 x), .int .u64 (wv2 x), .int .u64 (wv1 x), .int .u64 (wv0 x)]) (vs := [.int .u64 (wv3 x), .int .u64 (wv2 x), .int .u64 (wv1 x), .int .u64 (wv0 x)]) (l := [.int .u64 (wv3 x), .int .u64 (wv2 x), .int .u64 (wv1 x), .int .u64 (wv0 x)]) (T rfl rfl) (T rfl rfl) sz35 rfl rfl rfl n27.blk rfl ?_)
   intro w31 s32 H33
   have E34 := below_st E30 N28 s32
   refine lw_v (.bool (decide (fits x))) (dv_assign (T rfl rfl)) ?_
   refine lw_nil ?_
   refine rk_seq ?_
   refine rk_reg ?_
   refine lw_v (.pointer (some ⟨b1, 2, none⟩)) (dv_fieldAddr (a := ⟨b1, 0, none⟩) (a' := ⟨b1, 2, none⟩) fo102_1 (T rfl rfl) rfl) ?_
   have H35 := (s32.blk (n27.ext.blk (e23.blk H19)) (by omega))
   refine lw_v (.agg #[.bool nb, .slice Ab lb cb]) (dv_loads (l := [.bool nb, .slice Ab lb cb]) agt100 sz100 (T rfl rfl) H35 rfl) ?_
   have h36 := hb.ext E34
   refine lw_e (oe_callf (vs := [.agg #[.bool nb, .slice Ab lb cb]]) co150 (ar1 (T rfl rfl)) (l1Wide_ok h36 (by first | decide | omega)) ?_)
   rintro _ w38 ⟨rfl, e39⟩
   have E40 := below_ext E34 E34.size e39
   have bw37 := w_rg (y)
   refine lw_v (.tuple #[.agg #[.int .u64 (wv3 y), .int .u64 (wv2 y), .int .u64 (wv1 y), .int .u64 (wv0 y)], .bool (decide (fits y))]) (dv_move (T rfl rfl)) ?_
   refine lw_v (.agg #[.int .u64 (wv3 y), .int .u64 (wv2 y), .int .u64 (wv1 y), .int .u64 (wv0 y)]) (dv_extract (vs := #[.agg #[.int .u64 (wv3 y), .int .u64 (wv2 y), .int .u64 (wv1 y), .int .u64 (wv0 y)], .bool (decide (fits y))]) (T rfl rfl) rfl) ?_
   refine lw_v (.bool (decide (fits y))) (dv_extract (vs := #[.agg #[.int .u64 (wv3 y), .int .u64 (wv2 y), .int .u64 (wv1 y), .int .u64 (wv0 y)], .bool (decide (fits y))]) (T rfl rfl) rfl) ?_
   refine lw_e (oe_alloc ze35 ?_)
   intro b41 w42 n43
   have N44 : w.heap.size ≤ b41 := n43.eq ▸ E40.size
   have H45 := (e39.blk H33)
   have : b25 < b41 := n43.eq ▸ lt_of_blk H45
   have E46 := below_ext E40 E40.size n43.ext
   refine lw_e (oe_store (v := .agg #[.int .u64 (wv3 y), .int .u64 (wv2 y), .int .u64 (wv1 y), .int .u64 (wv0 y)]) (vs := [.int .u64 (wv3 y), .int .u64 (wv2 y), .int .u64 (wv1 y), .int .u64 (wv0 y)]) (l := [.int .u64 (wv3 y), .int .u64 (wv2 y), .int .u64 (wv1 y), .int .u64 (wv0 y)]) (T rfl rfl) (T rfl rfl) sz35 rfl rfl rfl n43.blk rfl ?_)
   intro w47 s48 H49
   have E50 := below_st E46 N44 s48
   refine lw_v (.bool (decide (fits y))) (dv_assign (T rfl rfl)) ?_
   refine lw_nil ?_
   refine rk_seq ?_
   refine rk_reg ?_
   refine lw_v (.pointer (some ⟨b1, 4, none⟩)) (dv_fieldAddr (a := ⟨b1, 0, none⟩) (a' := ⟨b1, 4, none⟩) fo102_2 (T rfl rfl) rfl) ?_
   have H51 := (s48.blk (n43.ext.blk (e39.blk H35)) (by omega))
   refine lw_v (.agg #[.bool nm, .slice Am lm cm]) (dv_loads (l := [.bool nm, .slice Am lm cm]) agt100 sz100 (T rfl rfl) H51 rfl) ?_
   have h52 := hm.ext E50
   refine lw_e (oe_callf (vs := [.agg #[.bool nm, .slice Am lm cm]]) co150 (ar1 (T rfl rfl)) (l1Wide_ok h52 (by first | decide | omega)) ?_)
   rintro _ w54 ⟨rfl, e55⟩
   have E56 := below_ext E50 E50.size e55
   have bw53 := w_rg (u)
   refine lw_v (.tuple #[.agg #[.int .u64 (wv3 u), .int .u64 (wv2 u), .int .u64 (wv1 u), .int .u64 (wv0 u)], .bool (decide (fits u))]) (dv_move (T rfl rfl)) ?_
   refine lw_v (.agg #[.int .u64 (wv3 u), .int .u64 (wv2 u), .int .u64 (wv1 u), .int .u64 (wv0 u)]) (dv_extract (vs := #[.agg #[.int .u64 (wv3 u), .int .u64 (wv2 u), .int .u64 (wv1 u), .int .u64 (wv0 u)], .bool (decide (fits u))]) (T rfl rfl) rfl) ?_
   refine lw_v (.bool (decide (fits u))) (dv_extract (vs := #[.agg #[.int .u64 (wv3 u), .int .u64 (wv2 u), .int .u64 (wv1 u), .int .u64 (wv0 u)], .bool (decide (fits u))]) (T rfl rfl) rfl) ?_
   refine lw_e (oe_alloc ze35 ?_)
   intro b57 w58 n59
   have N60 : w.heap.size ≤ b57 := n59.eq ▸ E56.size
   have H61 := (e55.blk H49)
   have : b41 < b57 := n59.eq ▸ lt_of_blk H61
   have E62 := below_ext E56 E56.size n59.ext
   refine lw_e (oe_store (v := .agg #[.int .u64 (wv3 u), .int .u64 (wv2 u), .int .u64 (wv1 u), .int .u64 (wv0 u)]) (vs := [.int .u64 (wv3 u), .int .u64 (wv2 u), .int .u64 (wv1 u), .int .u64 (wv0 u)]) (l := [.int .u64 (wv3 u), .int .u64 (wv2 u), .int .u64 (wv1 u), .int .u64 (wv0 u)]) (T rfl rfl) (T rfl rfl) sz35 rfl rfl rfl n59.blk rfl ?_)
   intro w63 s64 H65
   have E66 := below_st E62 N60 s64
   refine lw_v (.bool (decide (fits u))) (dv_assign (T rfl rfl)) ?_
   refine lw_nil ?_
   refine rk_seq ?_
   refine rk_reg ?_
   have H67 := (s64.blk (n59.ext.blk (e55.blk (s48.blk (n43.ext.blk H45) (by omega)))) (by omega))
   refine lw_v (.agg #[.int .u64 (wv3 x), .int .u64 (wv2 x), .int .u64 (wv1 x), .int .u64 (wv0 x)]) (dv_loads (l := [.int .u64 (wv3 x), .int .u64 (wv2 x), .int .u64 (wv1 x), .int .u64 (wv0 x)]) agt35 sz35 (T rfl rfl) H67 rfl) ?_
   have H68 := (s64.blk (n59.ext.blk H61) (by omega))
   refine lw_v (.agg #[.int .u64 (wv3 y), .int .u64 (wv2 y), .int .u64 (wv1 y), .int .u64 (wv0 y)]) (dv_loads (l := [.int .u64 (wv3 y), .int .u64 (wv2 y), .int .u64 (wv1 y), .int .u64 (wv0 y)]) agt35 sz35 (T rfl rfl) H68 rfl) ?_
   refine lw_v (.agg #[.int .u64 (wv3 u), .int .u64 (wv2 u), .int .u64 (wv1 u), .int .u64 (wv0 u)]) (dv_loads (l := [.int .u64 (wv3 u), .int .u64 (wv2 u), .int .u64 (wv1 u), .int .u64 (wv0 u)]) agt35 sz35 (T rfl rfl) H65 rfl) ?_
   refine lw_v (.agg #[.int .u64 (wv3 x), .int .u64 (wv2 x), .int .u64 (wv1 x), .int .u64 (wv0 x), .int .u64 (wv3 y), .int .u64 (wv2 y), .int .u64 (wv1 y), .int .u64 (wv0 y), .int .u64 (wv3 u), .int .u64 (wv2 u), .int .u64 (wv1 u), .int .u64 (wv0 u)]) (dv_build (pv := [(0, .agg #[.int .u64 (wv3 x), .int .u64 (wv2 x), .int .u64 (wv1 x), .int .u64 (wv0 x)]), (1, .agg #[.int .u64 (wv3 y), .int .u64 (wv2 y), .int .u64 (wv1 y), .int .u64 (wv0 y)]), (2, .agg #[.int .u64 (wv3 u), .int .u64 (wv2 u), .int .u64 (wv1 u), .int .u64 (wv0 u)])]) (l := [.int .u64 (wv3 x), .int .u64 (wv2 x), .int .u64 (wv1 x), .int .u64 (wv0 x), .int .u64 (wv3 y), .int .u64 (wv2 y), .int .u64 (wv1 y), .int .u64 (wv0 y), .int .u64 (wv3 u), .int .u64 (wv2 u), .int .u64 (wv1 u), .int .u64 (wv0 u)]) zc37 pl37 ⟨rfl, (T rfl rfl), ⟨rfl, (T rfl rfl), ⟨rfl, (T rfl rfl), trivial⟩⟩⟩ rfl) ?_
   have H69 := (s64.blk (n59.ext.blk (e55.blk (s48.blk (n43.ext.blk (e39.blk (s32.blk (n27.ext.blk H29) (by omega)))) (by omega)))) (by omega))
   refine lw_e (oe_store (v := .agg #[.int .u64 (wv3 x), .int .u64 (wv2 x), .int .u64 (wv1 x), .int .u64 (wv0 x), .int .u64 (wv3 y), .int .u64 (wv2 y), .int .u64 (wv1 y), .int .u64 (wv0 y), .int .u64 (wv3 u), .int .u64 (wv2 u), .int .u64 (wv1 u), .int .u64 (wv0 u)]) (vs := [.int .u64 (wv3 x), .int .u64 (wv2 x), .int .u64 (wv1 x), .int .u64 (wv0 x), .int .u64 (wv3 y), .int .u64 (wv2 y), .int .u64 (wv1 y), .int .u64 (wv0 y), .int .u64 (wv3 u), .int .u64 (wv2 u), .int .u64 (wv1 u), .int .u64 (wv0 u)]) (l := [.int .u64 (wv3 x), .int .u64 (wv2 x), .int .u64 (wv1 x), .int .u64 (wv0 x), .int .u64 (wv3 y), .int .u64 (wv2 y), .int .u64 (wv1 y), .int .u64 (wv0 y), .int .u64 (wv3 u), .int .u64 (wv2 u), .int .u64 (wv1 u), .int .u64 (wv0 u)]) (T rfl rfl) (T rfl rfl) sz37 rfl rfl rfl H69 rfl ?_)
   intro w70 s71 H72
   have E73 := below_st E66 N9 s71
   refine lw_v (.bool true) (dv_assign C) ?_
   refine lw_nil ?_
   refine rk_ret Try.func96 (v := .tuple #[.agg #[.int .u64 (wv3 x), .int .u64 (wv2 x), .int .u64 (wv1 x), .int .u64 (wv0 x), .int .u64 (wv3 y), .int .u64 (wv2 y), .int .u64 (wv1 y), .int .u64 (wv0 y), .int .u64 (wv3 u), .int .u64 (wv2 u), .int .u64 (wv1 u), .int .u64 (wv0 u)], .bool true]) (res2 Try.results96 (rv_cells (l := [.int .u64 (wv3 x), .int .u64 (wv2 x), .int .u64 (wv1 x), .int .u64 (wv0 x), .int .u64 (wv3 y), .int .u64 (wv2 y), .int .u64 (wv1 y), .int .u64 (wv0 y), .int .u64 (wv3 u), .int .u64 (wv2 u), .int .u64 (wv1 u), .int .u64 (wv0 u)]) agt37 sz37 rfl rfl H72 rfl) (rv_tmp rfl rfl)) ⟨_, rfl, ?_⟩
   have hS : sm3 x y u := by first | assumption | simpa using ‹_›
   exact ⟨(tu2 (ag12 (vi (by rw [pkz_t hS])) (vi (by rw [pkz_t hS])) (vi (by rw [pkz_t hS])) (vi (by rw [pkz_t hS])) (vi (by rw [pkz_t hS])) (vi (by rw [pkz_t hS])) (vi (by rw [pkz_t hS])) (vi (by rw [pkz_t hS])) (vi (by rw [pkz_t hS])) (vi (by rw [pkz_t hS])) (vi (by rw [pkz_t hS])) (vi (by rw [pkz_t hS]))) (vt hS)), E73⟩
 · refine rk_ct (T rfl (congrArg Value.bool (decide_eq_true hb18))) ?_
   refine rk_seq ?_
   refine rk_reg ?_
   refine lw_v (.agg #[.int .u64 0, .int .u64 0, .int .u64 0, .int .u64 0, .int .u64 0, .int .u64 0, .int .u64 0, .int .u64 0, .int .u64 0, .int .u64 0, .int .u64 0, .int .u64 0]) (dv_build (pv := []) (l := [.int .u64 0, .int .u64 0, .int .u64 0, .int .u64 0, .int .u64 0, .int .u64 0, .int .u64 0, .int .u64 0, .int .u64 0, .int .u64 0, .int .u64 0, .int .u64 0]) zc37 pl37 trivial rfl) ?_
   have H74 := (e16.blk n8.blk)
   refine lw_e (oe_store (v := .agg #[.int .u64 0, .int .u64 0, .int .u64 0, .int .u64 0, .int .u64 0, .int .u64 0, .int .u64 0, .int .u64 0, .int .u64 0, .int .u64 0, .int .u64 0, .int .u64 0]) (vs := [.int .u64 0, .int .u64 0, .int .u64 0, .int .u64 0, .int .u64 0, .int .u64 0, .int .u64 0, .int .u64 0, .int .u64 0, .int .u64 0, .int .u64 0, .int .u64 0]) (l := [.int .u64 0, .int .u64 0, .int .u64 0, .int .u64 0, .int .u64 0, .int .u64 0, .int .u64 0, .int .u64 0, .int .u64 0, .int .u64 0, .int .u64 0, .int .u64 0]) (T rfl rfl) (T rfl rfl) sz37 rfl rfl rfl H74 rfl ?_)
   intro w75 s76 H77
   have E78 := below_st E17 N9 s76
   refine lw_v (.bool false) (dv_assign C) ?_
   refine lw_nil ?_
   refine rk_ret Try.func96 (v := .tuple #[.agg #[.int .u64 0, .int .u64 0, .int .u64 0, .int .u64 0, .int .u64 0, .int .u64 0, .int .u64 0, .int .u64 0, .int .u64 0, .int .u64 0, .int .u64 0, .int .u64 0], .bool false]) (res2 Try.results96 (rv_cells (l := [.int .u64 0, .int .u64 0, .int .u64 0, .int .u64 0, .int .u64 0, .int .u64 0, .int .u64 0, .int .u64 0, .int .u64 0, .int .u64 0, .int .u64 0, .int .u64 0]) agt37 sz37 rfl rfl H77 rfl) (rv_tmp rfl rfl)) ⟨_, rfl, ?_⟩
   have hS : ¬ (sm3 x y u) := by first | assumption | simpa using ‹_›
   exact ⟨(tu2 (ag12 (vi (wf3 hS)) (vi (wf2 hS)) (vi (wf1 hS)) (vi (wf0 hS)) (vi (wf3 hS)) (vi (wf2 hS)) (vi (wf1 hS)) (vi (wf0 hS)) (vi (wf3 hS)) (vi (wf2 hS)) (vi (wf1 hS)) (vi (wf0 hS))) (vf hS)), E78⟩
set_option maxHeartbeats 1000000 in
theorem spoint_ok {w : World}  {na : Bool} {Aa : Option Addr} {la ca : Nat} {x : Int} {sx : Nat} (ha : Num 64 29 .u64 w na Aa la ca x sx) {nb : Bool} {Ab : Option Addr} {lb cb : Nat} {y : Int} {sy : Nat} (hb : Num 64 29 .u64 w nb Ab lb cb y sy) {nm : Bool} {Am : Option Addr} {lm cm : Nat} {u : Int} {su : Nat} (hm : Num 64 29 .u64 w nm Am lm cm u su) (hbsx : sx ≤ 100000) (hbsy : sy ≤ 100000) (hbsu : su ≤ 100000)  : Ct Try.prog 102 [.agg #[.bool na, .slice Aa la ca, .bool nb, .slice Ab lb cb, .bool nm, .slice Am lm cm]] w fun v w1 => v = .tuple #[.agg #[.int .u64 (wv3 (pkz (pFit x y u) (pPt x y u x))), .int .u64 (wv2 (pkz (pFit x y u) (pPt x y u x))), .int .u64 (wv1 (pkz (pFit x y u) (pPt x y u x))), .int .u64 (wv0 (pkz (pFit x y u) (pPt x y u x))), .int .u64 (wv3 (pkz (pFit x y u) (pPt x y u y))), .int .u64 (wv2 (pkz (pFit x y u) (pPt x y u y))), .int .u64 (wv1 (pkz (pFit x y u) (pPt x y u y))), .int .u64 (wv0 (pkz (pFit x y u) (pPt x y u y))), .int .u64 (wv3 (pkz (pFit x y u) (pPt x y u u))), .int .u64 (wv2 (pkz (pFit x y u) (pPt x y u u))), .int .u64 (wv1 (pkz (pFit x y u) (pPt x y u u))), .int .u64 (wv0 (pkz (pFit x y u) (pPt x y u u)))], .bool (decide (pFit x y u))] ∧ Ext w w1 := by
 refine ct_run (n := 80) Try.func102 rfl Try.ntmps102 rfl ?_
 have E0 : Below w.heap.size w w := Below.refl _ _
 have lha := Num.len (by decide) ha
 have lhb := Num.len (by decide) hb
 have lhm := Num.len (by decide) hm
 refine rk_seq ?_
 refine rk_reg ?_
 refine lw_e (oe_box (v := .agg #[.bool na, .slice Aa la ca, .bool nb, .slice Ab lb cb, .bool nm, .slice Am lm cm]) (cs := #[.bool na, .slice Aa la ca, .bool nb, .slice Ab lb cb, .bool nm, .slice Am lm cm]) (T rfl rfl) rfl ?_)
 intro b1 w2 n3
 have N4 : w.heap.size ≤ b1 := n3.eq ▸ E0.size
 have E5 := below_ext E0 E0.size n3.ext
 refine lw_e (oe_alloc ze37 ?_)
 intro b6 w7 n8
 have N9 : w.heap.size ≤ b6 := n8.eq ▸ E5.size
 have : b1 < b6 := n8.eq ▸ lt_of_blk n3.blk
 have E10 := below_ext E5 E5.size n8.ext
 refine lw_v (.bool false) (dv_assign C) ?_
 refine lw_nil ?_
 refine rk_seq ?_
 refine rk_seq ?_
 refine rk_reg ?_
 refine lw_v (.pointer (some ⟨b1, 4, none⟩)) (dv_fieldAddr (a := ⟨b1, 0, none⟩) (a' := ⟨b1, 4, none⟩) fo122_2 (T rfl rfl) rfl) ?_
 have H11 := (n8.ext.blk n3.blk)
 refine lw_v (.agg #[.bool nm, .slice Am lm cm]) (dv_loads (l := [.bool nm, .slice Am lm cm]) agt120 sz120 (T rfl rfl) H11 rfl) ?_
 have h12 := ((hm.ext n3.ext).ext n8.ext)
 refine lw_e (oe_callf (vs := [.agg #[.bool nm, .slice Am lm cm]]) co132 (ar1 (T rfl rfl)) (nsign_ok h12 ) ?_)
 rintro _ w13 ⟨rfl, e14⟩
 have E15 := below_ext E10 E10.size e14
 refine lw_v (.bool (decide ((sgnI u) = 0))) (dv_eql (a := sgnI u) (b := 0) (T rfl rfl) C) ?_
 refine lw_nil ?_
 by_cases hb16 : (sgnI u) = 0
 · refine rk_ct (T rfl (congrArg Value.bool (decide_eq_true hb16))) ?_
   refine rk_seq ?_
   refine rk_reg ?_
   refine lw_v (.agg #[.int .u64 0, .int .u64 0, .int .u64 0, .int .u64 0, .int .u64 0, .int .u64 0, .int .u64 0, .int .u64 0, .int .u64 0, .int .u64 0, .int .u64 0, .int .u64 0]) (dv_build (pv := []) (l := [.int .u64 0, .int .u64 0, .int .u64 0, .int .u64 0, .int .u64 0, .int .u64 0, .int .u64 0, .int .u64 0, .int .u64 0, .int .u64 0, .int .u64 0, .int .u64 0]) zc37 pl37 trivial rfl) ?_
   have H17 := (e14.blk n8.blk)
   refine lw_e (oe_store (v := .agg #[.int .u64 0, .int .u64 0, .int .u64 0, .int .u64 0, .int .u64 0, .int .u64 0, .int .u64 0, .int .u64 0, .int .u64 0, .int .u64 0, .int .u64 0, .int .u64 0]) (vs := [.int .u64 0, .int .u64 0, .int .u64 0, .int .u64 0, .int .u64 0, .int .u64 0, .int .u64 0, .int .u64 0, .int .u64 0, .int .u64 0, .int .u64 0, .int .u64 0]) (l := [.int .u64 0, .int .u64 0, .int .u64 0, .int .u64 0, .int .u64 0, .int .u64 0, .int .u64 0, .int .u64 0, .int .u64 0, .int .u64 0, .int .u64 0, .int .u64 0]) (T rfl rfl) (T rfl rfl) sz37 rfl rfl rfl H17 rfl ?_)
   intro w18 s19 H20
   have E21 := below_st E15 N9 s19
   refine lw_v (.bool false) (dv_assign C) ?_
   refine lw_nil ?_
   refine rk_ret Try.func102 (v := .tuple #[.agg #[.int .u64 0, .int .u64 0, .int .u64 0, .int .u64 0, .int .u64 0, .int .u64 0, .int .u64 0, .int .u64 0, .int .u64 0, .int .u64 0, .int .u64 0, .int .u64 0], .bool false]) (res2 Try.results102 (rv_cells (l := [.int .u64 0, .int .u64 0, .int .u64 0, .int .u64 0, .int .u64 0, .int .u64 0, .int .u64 0, .int .u64 0, .int .u64 0, .int .u64 0, .int .u64 0, .int .u64 0]) agt37 sz37 rfl rfl H20 rfl) (rv_tmp rfl rfl)) ⟨_, rfl, ?_⟩
   have hS : ¬ pFit x y u := fun hh => hh.1 (sgnI_zero.1 (by assumption))
   exact ⟨(tu2 (ag12 (vi (wf3 hS)) (vi (wf2 hS)) (vi (wf1 hS)) (vi (wf0 hS)) (vi (wf3 hS)) (vi (wf2 hS)) (vi (wf1 hS)) (vi (wf0 hS)) (vi (wf3 hS)) (vi (wf2 hS)) (vi (wf1 hS)) (vi (wf0 hS))) (vf hS)), E21⟩
 · refine rk_cf (T rfl (congrArg Value.bool (decide_eq_false hb16))) ?_
   refine rk_skip ?_
   refine rk_seq ?_
   refine rk_reg ?_
   refine lw_v (.pointer (some ⟨b1, 0, none⟩)) (dv_fieldAddr (a := ⟨b1, 0, none⟩) (a' := ⟨b1, 0, none⟩) fo122_0 (T rfl rfl) rfl) ?_
   have H22 := (e14.blk H11)
   refine lw_v (.agg #[.bool na, .slice Aa la ca]) (dv_loads (l := [.bool na, .slice Aa la ca]) agt120 sz120 (T rfl rfl) H22 rfl) ?_
   refine lw_v (.pointer (some ⟨b1, 2, none⟩)) (dv_fieldAddr (a := ⟨b1, 0, none⟩) (a' := ⟨b1, 2, none⟩) fo122_1 (T rfl rfl) rfl) ?_
   refine lw_v (.agg #[.bool nb, .slice Ab lb cb]) (dv_loads (l := [.bool nb, .slice Ab lb cb]) agt120 sz120 (T rfl rfl) H22 rfl) ?_
   refine lw_v (.pointer (some ⟨b1, 4, none⟩)) (dv_fieldAddr (a := ⟨b1, 0, none⟩) (a' := ⟨b1, 4, none⟩) fo122_2 (T rfl rfl) rfl) ?_
   refine lw_v (.agg #[.bool nm, .slice Am lm cm]) (dv_loads (l := [.bool nm, .slice Am lm cm]) agt120 sz120 (T rfl rfl) H22 rfl) ?_
   refine lw_e (oe_buildSlice (pv := [(0, .agg #[.bool na, .slice Aa la ca]), (1, .agg #[.bool nb, .slice Ab lb cb]), (2, .agg #[.bool nm, .slice Am lm cm])]) (init := [.bool false, .slice none 0 0, .bool false, .slice none 0 0, .bool false, .slice none 0 0]) (l := [.bool na, .slice Aa la ca, .bool nb, .slice Ab lb cb, .bool nm, .slice Am lm cm]) us197 sz120 rfl rfl zc120 (by kernel_rfl) ⟨rfl, (T rfl rfl), ⟨rfl, (T rfl rfl), ⟨rfl, (T rfl rfl), trivial⟩⟩⟩ rfl ?_)
   intro b23 w24 n25
   have N26 : w.heap.size ≤ b23 := n25.eq ▸ E15.size
   have H27 := (e14.blk n8.blk)
   have : b6 < b23 := n25.eq ▸ lt_of_blk H27
   have E28 := below_ext E15 E15.size n25.ext
   have h29 := ((((ha.ext n3.ext).ext n8.ext).ext e14).ext n25.ext)
   have h30 := ((((hb.ext n3.ext).ext n8.ext).ext e14).ext n25.ext)
   have h31 := ((h12.ext e14).ext n25.ext)
   refine lw_e (oe_callf (vs := [.slice (some ⟨b23, 0, none⟩) 3 3]) co134 (ar1 (T rfl rfl)) (gcd3_ok h29 h30 h31 (by first | decide | omega) (by first | decide | omega) (by first | decide | omega) n25.blk) ?_)
   rintro _ w37 ⟨nr32, A33, n34, c35, rfl, e38, h36⟩
   have E39 := below_ext E28 E28.size e38
   have lh36 := Num.len (by decide) h36
   refine lw_e (oe_alloc ze120 ?_)
   intro b40 w41 n42
   have N43 : w.heap.size ≤ b40 := n42.eq ▸ E39.size
   have H44 := (e38.blk n25.blk)
   have : b23 < b40 := n42.eq ▸ lt_of_blk H44
   have E45 := below_ext E39 E39.size n42.ext
   refine lw_e (oe_store (v := .agg #[.bool nr32, .slice A33 n34 c35]) (vs := [.bool nr32, .slice A33 n34 c35]) (l := [.bool nr32, .slice A33 n34 c35]) (T rfl rfl) (T rfl rfl) sz120 rfl rfl rfl n42.blk rfl ?_)
   intro w46 s47 H48
   have E49 := below_st E45 N43 s47
   refine lw_nil ?_
   refine rk_seq ?_
   refine rk_seq ?_
   refine rk_reg ?_
   refine lw_v (.pointer (some ⟨b1, 4, none⟩)) (dv_fieldAddr (a := ⟨b1, 0, none⟩) (a' := ⟨b1, 4, none⟩) fo122_2 (T rfl rfl) rfl) ?_
   refine lw_v (.pointer (some ⟨b1, 4, none⟩)) (dv_fieldAddr (a := ⟨b1, 4, none⟩) (a' := ⟨b1, 4, none⟩) fo120_0 (T rfl rfl) rfl) ?_
   have H50 := (s47.blk (n42.ext.blk (e38.blk (n25.ext.blk H22))) (by omega))
   refine lw_v (.bool nm) (dv_load1 (b := b1) (o := 4) agt4 (T rfl rfl) H50 rfl) ?_
   refine lw_nil ?_
   rcases Bool.eq_false_or_eq_true (nm) with hb51 | hb51
   · refine rk_ct (T rfl (congrArg Value.bool hb51)) ?_
     refine rk_reg ?_
     refine lw_v (.agg #[.bool nr32, .slice A33 n34 c35]) (dv_loads (l := [.bool nr32, .slice A33 n34 c35]) agt120 sz120 (T rfl rfl) H48 rfl) ?_
     have h52 := ((h36.ext n42.ext).st s47 n42.blk (by decide))
     refine lw_e (oe_callf (vs := [.agg #[.bool nr32, .slice A33 n34 c35]]) co160 (ar1 (T rfl rfl)) (minus_ok h52 (by first | decide | omega)) ?_)
     rintro _ w58 ⟨nr53, A54, n55, c56, rfl, e59, h57⟩
     have E60 := below_ext E49 E49.size e59
     have lh57 := Num.len (by decide) h57
     have H61 := (e59.blk H48)
     refine lw_e (oe_store (v := .agg #[.bool nr53, .slice A54 n55 c56]) (vs := [.bool nr53, .slice A54 n55 c56]) (l := [.bool nr53, .slice A54 n55 c56]) (T rfl rfl) (T rfl rfl) sz120 rfl rfl rfl H61 rfl ?_)
     intro w62 s63 H64
     have E65 := below_st E60 N43 s63
     refine lw_nil ?_
     refine rk_seq ?_
     refine rk_reg ?_
     refine lw_v (.pointer (some ⟨b1, 0, none⟩)) (dv_fieldAddr (a := ⟨b1, 0, none⟩) (a' := ⟨b1, 0, none⟩) fo122_0 (T rfl rfl) rfl) ?_
     have H66 := (s63.blk (e59.blk H50) (by omega))
     refine lw_v (.agg #[.bool na, .slice Aa la ca]) (dv_loads (l := [.bool na, .slice Aa la ca]) agt120 sz120 (T rfl rfl) H66 rfl) ?_
     refine lw_v (.agg #[.bool nr53, .slice A54 n55 c56]) (dv_loads (l := [.bool nr53, .slice A54 n55 c56]) agt120 sz120 (T rfl rfl) H64 rfl) ?_
     have h67 := ha.ext E65
     have h68 := (h57.st s63 H61 (by decide))
     refine lw_e (oe_callf (vs := [.agg #[.bool na, .slice Aa la ca], .agg #[.bool nr53, .slice A54 n55 c56]]) co161 (ar2 (T rfl rfl) (T rfl rfl)) (over_ok h67 h68 (by have hu0 : u ≠ 0 := fun h0 => absurd (sgnI_zero.2 h0) (by assumption); first | exact Int.ne_of_gt (gI3_pos hu0) | exact Int.neg_ne_zero.2 (Int.ne_of_gt (gI3_pos hu0))) (by first | decide | omega) (by first | decide | omega)) ?_)
     rintro _ w79 ⟨nr69, A70, n71, c72, nr73, A74, n75, c76, rfl, e80, h77, h78⟩
     have E81 := below_ext E65 E65.size e80
     have lh77 := Num.len (by decide) h77
     have lh78 := Num.len (by decide) h78
     refine lw_v (.tuple #[.agg #[.bool nr69, .slice A70 n71 c72], .agg #[.bool nr73, .slice A74 n75 c76]]) (dv_move (T rfl rfl)) ?_
     refine lw_v (.agg #[.bool nr69, .slice A70 n71 c72]) (dv_extract (vs := #[.agg #[.bool nr69, .slice A70 n71 c72], .agg #[.bool nr73, .slice A74 n75 c76]]) (T rfl rfl) rfl) ?_
     refine lw_v (.agg #[.bool nr73, .slice A74 n75 c76]) (dv_extract (vs := #[.agg #[.bool nr69, .slice A70 n71 c72], .agg #[.bool nr73, .slice A74 n75 c76]]) (T rfl rfl) rfl) ?_
     refine lw_e (oe_alloc ze120 ?_)
     intro b82 w83 n84
     have N85 : w.heap.size ≤ b82 := n84.eq ▸ E81.size
     have H86 := (e80.blk H64)
     have : b40 < b82 := n84.eq ▸ lt_of_blk H86
     have E87 := below_ext E81 E81.size n84.ext
     refine lw_e (oe_alloc ze120 ?_)
     intro b88 w89 n90
     have N91 : w.heap.size ≤ b88 := n90.eq ▸ E87.size
     have : b82 < b88 := n90.eq ▸ lt_of_blk n84.blk
     have E92 := below_ext E87 E87.size n90.ext
     have H93 := (n90.ext.blk n84.blk)
     refine lw_e (oe_store (v := .agg #[.bool nr69, .slice A70 n71 c72]) (vs := [.bool nr69, .slice A70 n71 c72]) (l := [.bool nr69, .slice A70 n71 c72]) (T rfl rfl) (T rfl rfl) sz120 rfl rfl rfl H93 rfl ?_)
     intro w94 s95 H96
     have E97 := below_st E92 N85 s95
     have H98 := (s95.blk n90.blk (by omega))
     refine lw_e (oe_store (v := .agg #[.bool nr73, .slice A74 n75 c76]) (vs := [.bool nr73, .slice A74 n75 c76]) (l := [.bool nr73, .slice A74 n75 c76]) (T rfl rfl) (T rfl rfl) sz120 rfl rfl rfl H98 rfl ?_)
     intro w99 s100 H101
     have E102 := below_st E97 N91 s100
     refine lw_nil ?_
     refine rk_seq ?_
     refine rk_reg ?_
     refine lw_v (.pointer (some ⟨b1, 2, none⟩)) (dv_fieldAddr (a := ⟨b1, 0, none⟩) (a' := ⟨b1, 2, none⟩) fo122_1 (T rfl rfl) rfl) ?_
     have H103 := (s100.blk (s95.blk (n90.ext.blk (n84.ext.blk (e80.blk H66))) (by omega)) (by omega))
     refine lw_v (.agg #[.bool nb, .slice Ab lb cb]) (dv_loads (l := [.bool nb, .slice Ab lb cb]) agt120 sz120 (T rfl rfl) H103 rfl) ?_
     have H104 := (s100.blk (s95.blk (n90.ext.blk (n84.ext.blk H86)) (by omega)) (by omega))
     refine lw_v (.agg #[.bool nr53, .slice A54 n55 c56]) (dv_loads (l := [.bool nr53, .slice A54 n55 c56]) agt120 sz120 (T rfl rfl) H104 rfl) ?_
     have h105 := hb.ext E102
     have h106 := (((((h68.ext e80).ext n84.ext).ext n90.ext).st s95 H93 (by decide)).st s100 H98 (by decide))
     refine lw_e (oe_callf (vs := [.agg #[.bool nb, .slice Ab lb cb], .agg #[.bool nr53, .slice A54 n55 c56]]) co161 (ar2 (T rfl rfl) (T rfl rfl)) (over_ok h105 h106 (by have hu0 : u ≠ 0 := fun h0 => absurd (sgnI_zero.2 h0) (by assumption); first | exact Int.ne_of_gt (gI3_pos hu0) | exact Int.neg_ne_zero.2 (Int.ne_of_gt (gI3_pos hu0))) (by first | decide | omega) (by first | decide | omega)) ?_)
     rintro _ w117 ⟨nr107, A108, n109, c110, nr111, A112, n113, c114, rfl, e118, h115, h116⟩
     have E119 := below_ext E102 E102.size e118
     have lh115 := Num.len (by decide) h115
     have lh116 := Num.len (by decide) h116
     refine lw_v (.tuple #[.agg #[.bool nr107, .slice A108 n109 c110], .agg #[.bool nr111, .slice A112 n113 c114]]) (dv_move (T rfl rfl)) ?_
     refine lw_v (.agg #[.bool nr107, .slice A108 n109 c110]) (dv_extract (vs := #[.agg #[.bool nr107, .slice A108 n109 c110], .agg #[.bool nr111, .slice A112 n113 c114]]) (T rfl rfl) rfl) ?_
     refine lw_v (.agg #[.bool nr111, .slice A112 n113 c114]) (dv_extract (vs := #[.agg #[.bool nr107, .slice A108 n109 c110], .agg #[.bool nr111, .slice A112 n113 c114]]) (T rfl rfl) rfl) ?_
     refine lw_e (oe_alloc ze120 ?_)
     intro b120 w121 n122
     have N123 : w.heap.size ≤ b120 := n122.eq ▸ E119.size
     have H124 := (e118.blk H101)
     have : b88 < b120 := n122.eq ▸ lt_of_blk H124
     have E125 := below_ext E119 E119.size n122.ext
     refine lw_e (oe_alloc ze120 ?_)
     intro b126 w127 n128
     have N129 : w.heap.size ≤ b126 := n128.eq ▸ E125.size
     have : b120 < b126 := n128.eq ▸ lt_of_blk n122.blk
     have E130 := below_ext E125 E125.size n128.ext
     have H131 := (n128.ext.blk n122.blk)
     refine lw_e (oe_store (v := .agg #[.bool nr107, .slice A108 n109 c110]) (vs := [.bool nr107, .slice A108 n109 c110]) (l := [.bool nr107, .slice A108 n109 c110]) (T rfl rfl) (T rfl rfl) sz120 rfl rfl rfl H131 rfl ?_)
     intro w132 s133 H134
     have E135 := below_st E130 N123 s133
     have H136 := (s133.blk n128.blk (by omega))
     refine lw_e (oe_store (v := .agg #[.bool nr111, .slice A112 n113 c114]) (vs := [.bool nr111, .slice A112 n113 c114]) (l := [.bool nr111, .slice A112 n113 c114]) (T rfl rfl) (T rfl rfl) sz120 rfl rfl rfl H136 rfl ?_)
     intro w137 s138 H139
     have E140 := below_st E135 N129 s138
     refine lw_nil ?_
     refine rk_seq ?_
     refine rk_reg ?_
     refine lw_v (.pointer (some ⟨b1, 4, none⟩)) (dv_fieldAddr (a := ⟨b1, 0, none⟩) (a' := ⟨b1, 4, none⟩) fo122_2 (T rfl rfl) rfl) ?_
     have H141 := (s138.blk (s133.blk (n128.ext.blk (n122.ext.blk (e118.blk H103))) (by omega)) (by omega))
     refine lw_v (.agg #[.bool nm, .slice Am lm cm]) (dv_loads (l := [.bool nm, .slice Am lm cm]) agt120 sz120 (T rfl rfl) H141 rfl) ?_
     have H142 := (s138.blk (s133.blk (n128.ext.blk (n122.ext.blk (e118.blk H104))) (by omega)) (by omega))
     refine lw_v (.agg #[.bool nr53, .slice A54 n55 c56]) (dv_loads (l := [.bool nr53, .slice A54 n55 c56]) agt120 sz120 (T rfl rfl) H142 rfl) ?_
     have h143 := hm.ext E140
     have h144 := (((((h106.ext e118).ext n122.ext).ext n128.ext).st s133 H131 (by decide)).st s138 H136 (by decide))
     refine lw_e (oe_callf (vs := [.agg #[.bool nm, .slice Am lm cm], .agg #[.bool nr53, .slice A54 n55 c56]]) co161 (ar2 (T rfl rfl) (T rfl rfl)) (over_ok h143 h144 (by have hu0 : u ≠ 0 := fun h0 => absurd (sgnI_zero.2 h0) (by assumption); first | exact Int.ne_of_gt (gI3_pos hu0) | exact Int.neg_ne_zero.2 (Int.ne_of_gt (gI3_pos hu0))) (by first | decide | omega) (by first | decide | omega)) ?_)
     rintro _ w155 ⟨nr145, A146, n147, c148, nr149, A150, n151, c152, rfl, e156, h153, h154⟩
     have E157 := below_ext E140 E140.size e156
     have lh153 := Num.len (by decide) h153
     have lh154 := Num.len (by decide) h154
     refine lw_v (.tuple #[.agg #[.bool nr145, .slice A146 n147 c148], .agg #[.bool nr149, .slice A150 n151 c152]]) (dv_move (T rfl rfl)) ?_
     refine lw_v (.agg #[.bool nr145, .slice A146 n147 c148]) (dv_extract (vs := #[.agg #[.bool nr145, .slice A146 n147 c148], .agg #[.bool nr149, .slice A150 n151 c152]]) (T rfl rfl) rfl) ?_
     refine lw_v (.agg #[.bool nr149, .slice A150 n151 c152]) (dv_extract (vs := #[.agg #[.bool nr145, .slice A146 n147 c148], .agg #[.bool nr149, .slice A150 n151 c152]]) (T rfl rfl) rfl) ?_
     refine lw_e (oe_alloc ze120 ?_)
     intro b158 w159 n160
     have N161 : w.heap.size ≤ b158 := n160.eq ▸ E157.size
     have H162 := (e156.blk H139)
     have : b126 < b158 := n160.eq ▸ lt_of_blk H162
     have E163 := below_ext E157 E157.size n160.ext
     refine lw_e (oe_alloc ze120 ?_)
     intro b164 w165 n166
     have N167 : w.heap.size ≤ b164 := n166.eq ▸ E163.size
     have : b158 < b164 := n166.eq ▸ lt_of_blk n160.blk
     have E168 := below_ext E163 E163.size n166.ext
     have H169 := (n166.ext.blk n160.blk)
     refine lw_e (oe_store (v := .agg #[.bool nr145, .slice A146 n147 c148]) (vs := [.bool nr145, .slice A146 n147 c148]) (l := [.bool nr145, .slice A146 n147 c148]) (T rfl rfl) (T rfl rfl) sz120 rfl rfl rfl H169 rfl ?_)
     intro w170 s171 H172
     have E173 := below_st E168 N161 s171
     have H174 := (s171.blk n166.blk (by omega))
     refine lw_e (oe_store (v := .agg #[.bool nr149, .slice A150 n151 c152]) (vs := [.bool nr149, .slice A150 n151 c152]) (l := [.bool nr149, .slice A150 n151 c152]) (T rfl rfl) (T rfl rfl) sz120 rfl rfl rfl H174 rfl ?_)
     intro w175 s176 H177
     have E178 := below_st E173 N167 s176
     refine lw_nil ?_
     refine rk_seq ?_
     refine rk_seq ?_
     refine rk_any (fun w => w.heap[b82]? = some (.cells #[.bool nr69, .slice A70 n71 c72] 120) ∧ w.heap[b120]? = some (.cells #[.bool nr107, .slice A108 n109 c110] 120) ∧ w.heap[b158]? = some (.cells #[.bool nr145, .slice A146 n147 c148] 120)) [] mo ?_
     intro w179 d180
     have E181 := below_ext E178 E178.size d180.ext
     have H182 := (d180.ext.blk (s176.blk (s171.blk (n166.ext.blk (n160.ext.blk (e156.blk (s138.blk (s133.blk (n128.ext.blk (n122.ext.blk (e118.blk (s100.blk H96 (by omega))))) (by omega)) (by omega))))) (by omega)) (by omega)))
     have H183 := (d180.ext.blk (s176.blk (s171.blk (n166.ext.blk (n160.ext.blk (e156.blk (s138.blk H134 (by omega))))) (by omega)) (by omega)))
     have H184 := (d180.ext.blk (s176.blk H172 (by omega)))
     refine aw_load 0 (.agg #[.bool nr69, .slice A70 n71 c72]) rfl (by kernel_rfl) .none ⟨H182, H183, H184⟩ (fun _ s => dv_loads (l := [.bool nr69, .slice A70 n71 c72]) agt120 sz120 (T rfl rfl) s.1 rfl) ?_
     refine aw_load 2 (.agg #[.bool nr107, .slice A108 n109 c110]) rfl (by kernel_rfl) .none ⟨H182, H183, H184⟩ (fun _ s => dv_loads (l := [.bool nr107, .slice A108 n109 c110]) agt120 sz120 (T rfl rfl) s.2.1 rfl) ?_
     refine aw_load 4 (.agg #[.bool nr145, .slice A146 n147 c148]) rfl (by kernel_rfl) .none ⟨H182, H183, H184⟩ (fun _ s => dv_loads (l := [.bool nr145, .slice A146 n147 c148]) agt120 sz120 (T rfl rfl) s.2.2 rfl) ?_
     have h185 := (((((((((((((((h77.ext n84.ext).ext n90.ext).st s95 H93 (by decide)).st s100 H98 (by decide)).ext e118).ext n122.ext).ext n128.ext).st s133 H131 (by decide)).st s138 H136 (by decide)).ext e156).ext n160.ext).ext n166.ext).st s171 H169 (by decide)).st s176 H174 (by decide)).ext d180.ext)
     refine aw_one 1 rfl (by kernel_rfl) .none (oe_callf (vs := [.agg #[.bool nr69, .slice A70 n71 c72]]) co133 (ar1 (T rfl rfl)) (nsize_num h185 (by first | omega | (simp; done) | (simp; omega))) ?_)
     rintro _ w186 ⟨rfl, e187⟩
     have E188 := below_ext E181 E181.size e187
     have H189 := (e187.blk H182)
     have H190 := (e187.blk H183)
     have H191 := (e187.blk H184)
     refine ⟨.inr ⟨H189, H190, H191⟩, ?_⟩
     have h192 := (((((((((((h115.ext n122.ext).ext n128.ext).st s133 H131 (by decide)).st s138 H136 (by decide)).ext e156).ext n160.ext).ext n166.ext).st s171 H169 (by decide)).st s176 H174 (by decide)).ext d180.ext).ext e187)
     refine aw_one 3 rfl (by kernel_rfl) .none (oe_callf (vs := [.agg #[.bool nr107, .slice A108 n109 c110]]) co133 (ar1 (T rfl rfl)) (nsize_num h192 (by first | omega | (simp; done) | (simp; omega))) ?_)
     rintro _ w193 ⟨rfl, e194⟩
     have E195 := below_ext E188 E188.size e194
     have H196 := (e194.blk H189)
     have H197 := (e194.blk H190)
     have H198 := (e194.blk H191)
     refine ⟨.inr ⟨H196, H197, H198⟩, ?_⟩
     have h199 := (((((((h153.ext n160.ext).ext n166.ext).st s171 H169 (by decide)).st s176 H174 (by decide)).ext d180.ext).ext e187).ext e194)
     refine aw_one 5 rfl (by kernel_rfl) .none (oe_callf (vs := [.agg #[.bool nr145, .slice A146 n147 c148]]) co133 (ar1 (T rfl rfl)) (nsize_num h199 (by first | omega | (simp; done) | (simp; omega))) ?_)
     rintro _ w200 ⟨rfl, e201⟩
     have E202 := below_ext E195 E195.size e201
     have H203 := (e201.blk H196)
     have H204 := (e201.blk H197)
     have H205 := (e201.blk H198)
     refine ⟨.inr ⟨H203, H204, H205⟩, ?_⟩
     refine aw_pure 6 (.int .i64 (mx (mx ((nbits (x / (-(gI3 x y u))).natAbs : Int)) ((nbits (y / (-(gI3 x y u))).natAbs : Int))) ((nbits (u / (-(gI3 x y u))).natAbs : Int)))) rfl (by kernel_rfl) .none ⟨H203, H204, H205⟩ (fun _ => dv_max3 (a := (nbits (x / (-(gI3 x y u))).natAbs : Int)) (b := (nbits (y / (-(gI3 x y u))).natAbs : Int)) (c := (nbits (u / (-(gI3 x y u))).natAbs : Int)) (T rfl rfl) (T rfl rfl) (T rfl rfl)) ?_
     refine aw_pure 7 (.bool (decide (80 < (mx (mx ((nbits (x / (-(gI3 x y u))).natAbs : Int)) ((nbits (y / (-(gI3 x y u))).natAbs : Int))) ((nbits (u / (-(gI3 x y u))).natAbs : Int)))))) rfl (by kernel_rfl) .none ⟨H203, H204, H205⟩ (fun _ => dv_gtr (a := mx (mx ((nbits (x / (-(gI3 x y u))).natAbs : Int)) ((nbits (y / (-(gI3 x y u))).natAbs : Int))) ((nbits (u / (-(gI3 x y u))).natAbs : Int))) (b := 80) (T rfl rfl) C) ?_
     refine aw_done (by kernel_rfl) ?_
     by_cases hb206 : 80 < (mx (mx ((nbits (x / (-(gI3 x y u))).natAbs : Int)) ((nbits (y / (-(gI3 x y u))).natAbs : Int))) ((nbits (u / (-(gI3 x y u))).natAbs : Int)))
     · refine rk_ct (T rfl (congrArg Value.bool (decide_eq_true hb206))) ?_
       refine rk_seq ?_
       refine rk_reg ?_
       refine lw_v (.agg #[.int .u64 0, .int .u64 0, .int .u64 0, .int .u64 0, .int .u64 0, .int .u64 0, .int .u64 0, .int .u64 0, .int .u64 0, .int .u64 0, .int .u64 0, .int .u64 0]) (dv_build (pv := []) (l := [.int .u64 0, .int .u64 0, .int .u64 0, .int .u64 0, .int .u64 0, .int .u64 0, .int .u64 0, .int .u64 0, .int .u64 0, .int .u64 0, .int .u64 0, .int .u64 0]) zc37 pl37 trivial rfl) ?_
       have H207 := (e201.blk (e194.blk (e187.blk (d180.ext.blk (s176.blk (s171.blk (n166.ext.blk (n160.ext.blk (e156.blk (s138.blk (s133.blk (n128.ext.blk (n122.ext.blk (e118.blk (s100.blk (s95.blk (n90.ext.blk (n84.ext.blk (e80.blk (s63.blk (e59.blk (s47.blk (n42.ext.blk (e38.blk (n25.ext.blk H27))) (by omega))) (by omega))))) (by omega)) (by omega))))) (by omega)) (by omega))))) (by omega)) (by omega))))))
       refine lw_e (oe_store (v := .agg #[.int .u64 0, .int .u64 0, .int .u64 0, .int .u64 0, .int .u64 0, .int .u64 0, .int .u64 0, .int .u64 0, .int .u64 0, .int .u64 0, .int .u64 0, .int .u64 0]) (vs := [.int .u64 0, .int .u64 0, .int .u64 0, .int .u64 0, .int .u64 0, .int .u64 0, .int .u64 0, .int .u64 0, .int .u64 0, .int .u64 0, .int .u64 0, .int .u64 0]) (l := [.int .u64 0, .int .u64 0, .int .u64 0, .int .u64 0, .int .u64 0, .int .u64 0, .int .u64 0, .int .u64 0, .int .u64 0, .int .u64 0, .int .u64 0, .int .u64 0]) (T rfl rfl) (T rfl rfl) sz37 rfl rfl rfl H207 rfl ?_)
       intro w208 s209 H210
       have E211 := below_st E202 N9 s209
       refine lw_v (.bool false) (dv_assign C) ?_
       refine lw_nil ?_
       refine rk_ret Try.func102 (v := .tuple #[.agg #[.int .u64 0, .int .u64 0, .int .u64 0, .int .u64 0, .int .u64 0, .int .u64 0, .int .u64 0, .int .u64 0, .int .u64 0, .int .u64 0, .int .u64 0, .int .u64 0], .bool false]) (res2 Try.results102 (rv_cells (l := [.int .u64 0, .int .u64 0, .int .u64 0, .int .u64 0, .int .u64 0, .int .u64 0, .int .u64 0, .int .u64 0, .int .u64 0, .int .u64 0, .int .u64 0, .int .u64 0]) agt37 sz37 rfl rfl H210 rfl) (rv_tmp rfl rfl)) ⟨_, rfl, ?_⟩
       have ex : x / (-gI3 x y u) = pPt x y u x := (pt_neg (hm.neg_iff.1 (by assumption)) (gI3_dx ..))
       have ey : y / (-gI3 x y u) = pPt x y u y := (pt_neg (hm.neg_iff.1 (by assumption)) (gI3_dy ..))
       have eu : u / (-gI3 x y u) = pPt x y u u := (pt_neg (hm.neg_iff.1 (by assumption)) (gI3_dw ..))
       have h5 := mx3'.1 (by assumption)
       rw [ex, ey, eu] at h5
       have hS : ¬ pFit x y u := fun hh => h5 (sm3_iff.1 hh.2)
       exact ⟨(tu2 (ag12 (vi (wf3 hS)) (vi (wf2 hS)) (vi (wf1 hS)) (vi (wf0 hS)) (vi (wf3 hS)) (vi (wf2 hS)) (vi (wf1 hS)) (vi (wf0 hS)) (vi (wf3 hS)) (vi (wf2 hS)) (vi (wf1 hS)) (vi (wf0 hS))) (vf hS)), E211⟩
     · refine rk_cf (T rfl (congrArg Value.bool (decide_eq_false hb206))) ?_
       refine rk_skip ?_
       refine rk_seq ?_
       refine rk_reg ?_
       refine lw_v (.agg #[.int .u64 0, .int .u64 0, .int .u64 0, .int .u64 0, .int .u64 0, .int .u64 0, .int .u64 0, .int .u64 0, .int .u64 0, .int .u64 0, .int .u64 0, .int .u64 0]) (dv_build (pv := []) (l := [.int .u64 0, .int .u64 0, .int .u64 0, .int .u64 0, .int .u64 0, .int .u64 0, .int .u64 0, .int .u64 0, .int .u64 0, .int .u64 0, .int .u64 0, .int .u64 0]) zc37 pl37 trivial rfl) ?_
       refine lw_e (oe_alloc ze37 ?_)
       intro b212 w213 n214
       have N215 : w.heap.size ≤ b212 := n214.eq ▸ E202.size
       have H216 := (e201.blk (e194.blk (e187.blk (d180.ext.blk H177))))
       have : b164 < b212 := n214.eq ▸ lt_of_blk H216
       have E217 := below_ext E202 E202.size n214.ext
       refine lw_e (oe_store (v := .agg #[.int .u64 0, .int .u64 0, .int .u64 0, .int .u64 0, .int .u64 0, .int .u64 0, .int .u64 0, .int .u64 0, .int .u64 0, .int .u64 0, .int .u64 0, .int .u64 0]) (vs := [.int .u64 0, .int .u64 0, .int .u64 0, .int .u64 0, .int .u64 0, .int .u64 0, .int .u64 0, .int .u64 0, .int .u64 0, .int .u64 0, .int .u64 0, .int .u64 0]) (l := [.int .u64 0, .int .u64 0, .int .u64 0, .int .u64 0, .int .u64 0, .int .u64 0, .int .u64 0, .int .u64 0, .int .u64 0, .int .u64 0, .int .u64 0, .int .u64 0]) (T rfl rfl) (T rfl rfl) sz37 rfl rfl rfl n214.blk rfl ?_)
       intro w218 s219 H220
       have E221 := below_st E217 N215 s219
       refine lw_nil ?_
       refine rk_seq ?_
       refine rk_reg ?_
       have H222 := (s219.blk (n214.ext.blk H203) (by omega))
       refine lw_v (.agg #[.bool nr69, .slice A70 n71 c72]) (dv_loads (l := [.bool nr69, .slice A70 n71 c72]) agt120 sz120 (T rfl rfl) H222 rfl) ?_
       have h223 := (((((h185.ext e187).ext e194).ext e201).ext n214.ext).st s219 n214.blk (by decide))
       refine lw_e (oe_callf (vs := [.agg #[.bool nr69, .slice A70 n71 c72]]) co162 (ar1 (T rfl rfl)) (nwide_ok h223 (by first | decide | omega)) ?_)
       rintro _ w225 ⟨rfl, e226⟩
       have E227 := below_ext E221 E221.size e226
       have bw224 := w_rg (x / (-(gI3 x y u)))
       refine lw_v (.tuple #[.agg #[.int .u64 (wv3 (x / (-(gI3 x y u)))), .int .u64 (wv2 (x / (-(gI3 x y u)))), .int .u64 (wv1 (x / (-(gI3 x y u)))), .int .u64 (wv0 (x / (-(gI3 x y u))))], .bool (decide (fits (x / (-(gI3 x y u)))))]) (dv_move (T rfl rfl)) ?_
       refine lw_v (.agg #[.int .u64 (wv3 (x / (-(gI3 x y u)))), .int .u64 (wv2 (x / (-(gI3 x y u)))), .int .u64 (wv1 (x / (-(gI3 x y u)))), .int .u64 (wv0 (x / (-(gI3 x y u))))]) (dv_extract (vs := #[.agg #[.int .u64 (wv3 (x / (-(gI3 x y u)))), .int .u64 (wv2 (x / (-(gI3 x y u)))), .int .u64 (wv1 (x / (-(gI3 x y u)))), .int .u64 (wv0 (x / (-(gI3 x y u))))], .bool (decide (fits (x / (-(gI3 x y u)))))]) (T rfl rfl) rfl) ?_
       refine lw_v (.bool (decide (fits (x / (-(gI3 x y u)))))) (dv_extract (vs := #[.agg #[.int .u64 (wv3 (x / (-(gI3 x y u)))), .int .u64 (wv2 (x / (-(gI3 x y u)))), .int .u64 (wv1 (x / (-(gI3 x y u)))), .int .u64 (wv0 (x / (-(gI3 x y u))))], .bool (decide (fits (x / (-(gI3 x y u)))))]) (T rfl rfl) rfl) ?_
       refine lw_v (.pointer (some ⟨b212, 0, none⟩)) (dv_fieldAddr (a := ⟨b212, 0, none⟩) (a' := ⟨b212, 0, none⟩) fo37_0 (T rfl rfl) rfl) ?_
       have H228 := (e226.blk H220)
       refine lw_e (oe_store (v := .agg #[.int .u64 (wv3 (x / (-(gI3 x y u)))), .int .u64 (wv2 (x / (-(gI3 x y u)))), .int .u64 (wv1 (x / (-(gI3 x y u)))), .int .u64 (wv0 (x / (-(gI3 x y u))))]) (vs := [.int .u64 (wv3 (x / (-(gI3 x y u)))), .int .u64 (wv2 (x / (-(gI3 x y u)))), .int .u64 (wv1 (x / (-(gI3 x y u)))), .int .u64 (wv0 (x / (-(gI3 x y u))))]) (l := [.int .u64 (wv3 (x / (-(gI3 x y u)))), .int .u64 (wv2 (x / (-(gI3 x y u)))), .int .u64 (wv1 (x / (-(gI3 x y u)))), .int .u64 (wv0 (x / (-(gI3 x y u)))), .int .u64 0, .int .u64 0, .int .u64 0, .int .u64 0, .int .u64 0, .int .u64 0, .int .u64 0, .int .u64 0]) (T rfl rfl) (T rfl rfl) sz35 rfl rfl rfl H228 rfl ?_)
       intro w229 s230 H231
       have E232 := below_st E227 N215 s230
       refine lw_nil ?_
       refine rk_seq ?_
       refine rk_reg ?_
       have H233 := (s230.blk (e226.blk (s219.blk (n214.ext.blk H204) (by omega))) (by omega))
       refine lw_v (.agg #[.bool nr107, .slice A108 n109 c110]) (dv_loads (l := [.bool nr107, .slice A108 n109 c110]) agt120 sz120 (T rfl rfl) H233 rfl) ?_
       have h234 := ((((((h192.ext e194).ext e201).ext n214.ext).st s219 n214.blk (by decide)).ext e226).st s230 H228 (by decide))
       refine lw_e (oe_callf (vs := [.agg #[.bool nr107, .slice A108 n109 c110]]) co162 (ar1 (T rfl rfl)) (nwide_ok h234 (by first | decide | omega)) ?_)
       rintro _ w236 ⟨rfl, e237⟩
       have E238 := below_ext E232 E232.size e237
       have bw235 := w_rg (y / (-(gI3 x y u)))
       refine lw_v (.tuple #[.agg #[.int .u64 (wv3 (y / (-(gI3 x y u)))), .int .u64 (wv2 (y / (-(gI3 x y u)))), .int .u64 (wv1 (y / (-(gI3 x y u)))), .int .u64 (wv0 (y / (-(gI3 x y u))))], .bool (decide (fits (y / (-(gI3 x y u)))))]) (dv_move (T rfl rfl)) ?_
       refine lw_v (.agg #[.int .u64 (wv3 (y / (-(gI3 x y u)))), .int .u64 (wv2 (y / (-(gI3 x y u)))), .int .u64 (wv1 (y / (-(gI3 x y u)))), .int .u64 (wv0 (y / (-(gI3 x y u))))]) (dv_extract (vs := #[.agg #[.int .u64 (wv3 (y / (-(gI3 x y u)))), .int .u64 (wv2 (y / (-(gI3 x y u)))), .int .u64 (wv1 (y / (-(gI3 x y u)))), .int .u64 (wv0 (y / (-(gI3 x y u))))], .bool (decide (fits (y / (-(gI3 x y u)))))]) (T rfl rfl) rfl) ?_
       refine lw_v (.bool (decide (fits (y / (-(gI3 x y u)))))) (dv_extract (vs := #[.agg #[.int .u64 (wv3 (y / (-(gI3 x y u)))), .int .u64 (wv2 (y / (-(gI3 x y u)))), .int .u64 (wv1 (y / (-(gI3 x y u)))), .int .u64 (wv0 (y / (-(gI3 x y u))))], .bool (decide (fits (y / (-(gI3 x y u)))))]) (T rfl rfl) rfl) ?_
       refine lw_v (.pointer (some ⟨b212, 4, none⟩)) (dv_fieldAddr (a := ⟨b212, 0, none⟩) (a' := ⟨b212, 4, none⟩) fo37_1 (T rfl rfl) rfl) ?_
       have H239 := (e237.blk H231)
       refine lw_e (oe_store (v := .agg #[.int .u64 (wv3 (y / (-(gI3 x y u)))), .int .u64 (wv2 (y / (-(gI3 x y u)))), .int .u64 (wv1 (y / (-(gI3 x y u)))), .int .u64 (wv0 (y / (-(gI3 x y u))))]) (vs := [.int .u64 (wv3 (y / (-(gI3 x y u)))), .int .u64 (wv2 (y / (-(gI3 x y u)))), .int .u64 (wv1 (y / (-(gI3 x y u)))), .int .u64 (wv0 (y / (-(gI3 x y u))))]) (l := [.int .u64 (wv3 (x / (-(gI3 x y u)))), .int .u64 (wv2 (x / (-(gI3 x y u)))), .int .u64 (wv1 (x / (-(gI3 x y u)))), .int .u64 (wv0 (x / (-(gI3 x y u)))), .int .u64 (wv3 (y / (-(gI3 x y u)))), .int .u64 (wv2 (y / (-(gI3 x y u)))), .int .u64 (wv1 (y / (-(gI3 x y u)))), .int .u64 (wv0 (y / (-(gI3 x y u)))), .int .u64 0, .int .u64 0, .int .u64 0, .int .u64 0]) (T rfl rfl) (T rfl rfl) sz35 rfl rfl rfl H239 rfl ?_)
       intro w240 s241 H242
       have E243 := below_st E238 N215 s241
       refine lw_nil ?_
       refine rk_seq ?_
       refine rk_reg ?_
       have H244 := (s241.blk (e237.blk (s230.blk (e226.blk (s219.blk (n214.ext.blk H205) (by omega))) (by omega))) (by omega))
       refine lw_v (.agg #[.bool nr145, .slice A146 n147 c148]) (dv_loads (l := [.bool nr145, .slice A146 n147 c148]) agt120 sz120 (T rfl rfl) H244 rfl) ?_
       have h245 := (((((((h199.ext e201).ext n214.ext).st s219 n214.blk (by decide)).ext e226).st s230 H228 (by decide)).ext e237).st s241 H239 (by decide))
       refine lw_e (oe_callf (vs := [.agg #[.bool nr145, .slice A146 n147 c148]]) co162 (ar1 (T rfl rfl)) (nwide_ok h245 (by first | decide | omega)) ?_)
       rintro _ w247 ⟨rfl, e248⟩
       have E249 := below_ext E243 E243.size e248
       have bw246 := w_rg (u / (-(gI3 x y u)))
       refine lw_v (.tuple #[.agg #[.int .u64 (wv3 (u / (-(gI3 x y u)))), .int .u64 (wv2 (u / (-(gI3 x y u)))), .int .u64 (wv1 (u / (-(gI3 x y u)))), .int .u64 (wv0 (u / (-(gI3 x y u))))], .bool (decide (fits (u / (-(gI3 x y u)))))]) (dv_move (T rfl rfl)) ?_
       refine lw_v (.agg #[.int .u64 (wv3 (u / (-(gI3 x y u)))), .int .u64 (wv2 (u / (-(gI3 x y u)))), .int .u64 (wv1 (u / (-(gI3 x y u)))), .int .u64 (wv0 (u / (-(gI3 x y u))))]) (dv_extract (vs := #[.agg #[.int .u64 (wv3 (u / (-(gI3 x y u)))), .int .u64 (wv2 (u / (-(gI3 x y u)))), .int .u64 (wv1 (u / (-(gI3 x y u)))), .int .u64 (wv0 (u / (-(gI3 x y u))))], .bool (decide (fits (u / (-(gI3 x y u)))))]) (T rfl rfl) rfl) ?_
       refine lw_v (.bool (decide (fits (u / (-(gI3 x y u)))))) (dv_extract (vs := #[.agg #[.int .u64 (wv3 (u / (-(gI3 x y u)))), .int .u64 (wv2 (u / (-(gI3 x y u)))), .int .u64 (wv1 (u / (-(gI3 x y u)))), .int .u64 (wv0 (u / (-(gI3 x y u))))], .bool (decide (fits (u / (-(gI3 x y u)))))]) (T rfl rfl) rfl) ?_
       refine lw_v (.pointer (some ⟨b212, 8, none⟩)) (dv_fieldAddr (a := ⟨b212, 0, none⟩) (a' := ⟨b212, 8, none⟩) fo37_2 (T rfl rfl) rfl) ?_
       have H250 := (e248.blk H242)
       refine lw_e (oe_store (v := .agg #[.int .u64 (wv3 (u / (-(gI3 x y u)))), .int .u64 (wv2 (u / (-(gI3 x y u)))), .int .u64 (wv1 (u / (-(gI3 x y u)))), .int .u64 (wv0 (u / (-(gI3 x y u))))]) (vs := [.int .u64 (wv3 (u / (-(gI3 x y u)))), .int .u64 (wv2 (u / (-(gI3 x y u)))), .int .u64 (wv1 (u / (-(gI3 x y u)))), .int .u64 (wv0 (u / (-(gI3 x y u))))]) (l := [.int .u64 (wv3 (x / (-(gI3 x y u)))), .int .u64 (wv2 (x / (-(gI3 x y u)))), .int .u64 (wv1 (x / (-(gI3 x y u)))), .int .u64 (wv0 (x / (-(gI3 x y u)))), .int .u64 (wv3 (y / (-(gI3 x y u)))), .int .u64 (wv2 (y / (-(gI3 x y u)))), .int .u64 (wv1 (y / (-(gI3 x y u)))), .int .u64 (wv0 (y / (-(gI3 x y u)))), .int .u64 (wv3 (u / (-(gI3 x y u)))), .int .u64 (wv2 (u / (-(gI3 x y u)))), .int .u64 (wv1 (u / (-(gI3 x y u)))), .int .u64 (wv0 (u / (-(gI3 x y u))))]) (T rfl rfl) (T rfl rfl) sz35 rfl rfl rfl H250 rfl ?_)
       intro w251 s252 H253
       have E254 := below_st E249 N215 s252
       refine lw_nil ?_
       refine rk_seq ?_
       refine rk_reg ?_
       refine lw_v (.agg #[.int .u64 (wv3 (x / (-(gI3 x y u)))), .int .u64 (wv2 (x / (-(gI3 x y u)))), .int .u64 (wv1 (x / (-(gI3 x y u)))), .int .u64 (wv0 (x / (-(gI3 x y u)))), .int .u64 (wv3 (y / (-(gI3 x y u)))), .int .u64 (wv2 (y / (-(gI3 x y u)))), .int .u64 (wv1 (y / (-(gI3 x y u)))), .int .u64 (wv0 (y / (-(gI3 x y u)))), .int .u64 (wv3 (u / (-(gI3 x y u)))), .int .u64 (wv2 (u / (-(gI3 x y u)))), .int .u64 (wv1 (u / (-(gI3 x y u)))), .int .u64 (wv0 (u / (-(gI3 x y u))))]) (dv_loads (l := [.int .u64 (wv3 (x / (-(gI3 x y u)))), .int .u64 (wv2 (x / (-(gI3 x y u)))), .int .u64 (wv1 (x / (-(gI3 x y u)))), .int .u64 (wv0 (x / (-(gI3 x y u)))), .int .u64 (wv3 (y / (-(gI3 x y u)))), .int .u64 (wv2 (y / (-(gI3 x y u)))), .int .u64 (wv1 (y / (-(gI3 x y u)))), .int .u64 (wv0 (y / (-(gI3 x y u)))), .int .u64 (wv3 (u / (-(gI3 x y u)))), .int .u64 (wv2 (u / (-(gI3 x y u)))), .int .u64 (wv1 (u / (-(gI3 x y u)))), .int .u64 (wv0 (u / (-(gI3 x y u))))]) agt37 sz37 (T rfl rfl) H253 rfl) ?_
       have H255 := (s252.blk (e248.blk (s241.blk (e237.blk (s230.blk (e226.blk (s219.blk (n214.ext.blk (e201.blk (e194.blk (e187.blk (d180.ext.blk (s176.blk (s171.blk (n166.ext.blk (n160.ext.blk (e156.blk (s138.blk (s133.blk (n128.ext.blk (n122.ext.blk (e118.blk (s100.blk (s95.blk (n90.ext.blk (n84.ext.blk (e80.blk (s63.blk (e59.blk (s47.blk (n42.ext.blk (e38.blk (n25.ext.blk H27))) (by omega))) (by omega))))) (by omega)) (by omega))))) (by omega)) (by omega))))) (by omega)) (by omega))))))) (by omega))) (by omega))) (by omega))) (by omega))
       refine lw_e (oe_store (v := .agg #[.int .u64 (wv3 (x / (-(gI3 x y u)))), .int .u64 (wv2 (x / (-(gI3 x y u)))), .int .u64 (wv1 (x / (-(gI3 x y u)))), .int .u64 (wv0 (x / (-(gI3 x y u)))), .int .u64 (wv3 (y / (-(gI3 x y u)))), .int .u64 (wv2 (y / (-(gI3 x y u)))), .int .u64 (wv1 (y / (-(gI3 x y u)))), .int .u64 (wv0 (y / (-(gI3 x y u)))), .int .u64 (wv3 (u / (-(gI3 x y u)))), .int .u64 (wv2 (u / (-(gI3 x y u)))), .int .u64 (wv1 (u / (-(gI3 x y u)))), .int .u64 (wv0 (u / (-(gI3 x y u))))]) (vs := [.int .u64 (wv3 (x / (-(gI3 x y u)))), .int .u64 (wv2 (x / (-(gI3 x y u)))), .int .u64 (wv1 (x / (-(gI3 x y u)))), .int .u64 (wv0 (x / (-(gI3 x y u)))), .int .u64 (wv3 (y / (-(gI3 x y u)))), .int .u64 (wv2 (y / (-(gI3 x y u)))), .int .u64 (wv1 (y / (-(gI3 x y u)))), .int .u64 (wv0 (y / (-(gI3 x y u)))), .int .u64 (wv3 (u / (-(gI3 x y u)))), .int .u64 (wv2 (u / (-(gI3 x y u)))), .int .u64 (wv1 (u / (-(gI3 x y u)))), .int .u64 (wv0 (u / (-(gI3 x y u))))]) (l := [.int .u64 (wv3 (x / (-(gI3 x y u)))), .int .u64 (wv2 (x / (-(gI3 x y u)))), .int .u64 (wv1 (x / (-(gI3 x y u)))), .int .u64 (wv0 (x / (-(gI3 x y u)))), .int .u64 (wv3 (y / (-(gI3 x y u)))), .int .u64 (wv2 (y / (-(gI3 x y u)))), .int .u64 (wv1 (y / (-(gI3 x y u)))), .int .u64 (wv0 (y / (-(gI3 x y u)))), .int .u64 (wv3 (u / (-(gI3 x y u)))), .int .u64 (wv2 (u / (-(gI3 x y u)))), .int .u64 (wv1 (u / (-(gI3 x y u)))), .int .u64 (wv0 (u / (-(gI3 x y u))))]) (T rfl rfl) (T rfl rfl) sz37 rfl rfl rfl H255 rfl ?_)
       intro w256 s257 H258
       have E259 := below_st E254 N9 s257
       refine lw_v (.bool true) (dv_assign C) ?_
       refine lw_nil ?_
       refine rk_ret Try.func102 (v := .tuple #[.agg #[.int .u64 (wv3 (x / (-(gI3 x y u)))), .int .u64 (wv2 (x / (-(gI3 x y u)))), .int .u64 (wv1 (x / (-(gI3 x y u)))), .int .u64 (wv0 (x / (-(gI3 x y u)))), .int .u64 (wv3 (y / (-(gI3 x y u)))), .int .u64 (wv2 (y / (-(gI3 x y u)))), .int .u64 (wv1 (y / (-(gI3 x y u)))), .int .u64 (wv0 (y / (-(gI3 x y u)))), .int .u64 (wv3 (u / (-(gI3 x y u)))), .int .u64 (wv2 (u / (-(gI3 x y u)))), .int .u64 (wv1 (u / (-(gI3 x y u)))), .int .u64 (wv0 (u / (-(gI3 x y u))))], .bool true]) (res2 Try.results102 (rv_cells (l := [.int .u64 (wv3 (x / (-(gI3 x y u)))), .int .u64 (wv2 (x / (-(gI3 x y u)))), .int .u64 (wv1 (x / (-(gI3 x y u)))), .int .u64 (wv0 (x / (-(gI3 x y u)))), .int .u64 (wv3 (y / (-(gI3 x y u)))), .int .u64 (wv2 (y / (-(gI3 x y u)))), .int .u64 (wv1 (y / (-(gI3 x y u)))), .int .u64 (wv0 (y / (-(gI3 x y u)))), .int .u64 (wv3 (u / (-(gI3 x y u)))), .int .u64 (wv2 (u / (-(gI3 x y u)))), .int .u64 (wv1 (u / (-(gI3 x y u)))), .int .u64 (wv0 (u / (-(gI3 x y u))))]) agt37 sz37 rfl rfl H258 rfl) (rv_tmp rfl rfl)) ⟨_, rfl, ?_⟩
       have ex : x / (-gI3 x y u) = pPt x y u x := (pt_neg (hm.neg_iff.1 (by assumption)) (gI3_dx ..))
       have ey : y / (-gI3 x y u) = pPt x y u y := (pt_neg (hm.neg_iff.1 (by assumption)) (gI3_dy ..))
       have eu : u / (-gI3 x y u) = pPt x y u u := (pt_neg (hm.neg_iff.1 (by assumption)) (gI3_dw ..))
       have h5 := mx3.1 (Int.not_lt.1 (by assumption))
       rw [ex, ey, eu] at h5
       have hS : pFit x y u := ⟨fun h0 => absurd (sgnI_zero.2 h0) (by assumption), sm3_iff.2 h5⟩
       exact ⟨(tu2 (ag12 (vi (by rw [pkz_t hS, ex])) (vi (by rw [pkz_t hS, ex])) (vi (by rw [pkz_t hS, ex])) (vi (by rw [pkz_t hS, ex])) (vi (by rw [pkz_t hS, ey])) (vi (by rw [pkz_t hS, ey])) (vi (by rw [pkz_t hS, ey])) (vi (by rw [pkz_t hS, ey])) (vi (by rw [pkz_t hS, eu])) (vi (by rw [pkz_t hS, eu])) (vi (by rw [pkz_t hS, eu])) (vi (by rw [pkz_t hS, eu]))) (vt hS)), E259⟩
   · refine rk_cf (T rfl (congrArg Value.bool hb51)) ?_
     refine rk_skip ?_
     refine rk_seq ?_
     refine rk_reg ?_
     refine lw_v (.pointer (some ⟨b1, 0, none⟩)) (dv_fieldAddr (a := ⟨b1, 0, none⟩) (a' := ⟨b1, 0, none⟩) fo122_0 (T rfl rfl) rfl) ?_
     refine lw_v (.agg #[.bool na, .slice Aa la ca]) (dv_loads (l := [.bool na, .slice Aa la ca]) agt120 sz120 (T rfl rfl) H50 rfl) ?_
     refine lw_v (.agg #[.bool nr32, .slice A33 n34 c35]) (dv_loads (l := [.bool nr32, .slice A33 n34 c35]) agt120 sz120 (T rfl rfl) H48 rfl) ?_
     have h260 := ha.ext E49
     have h261 := ((h36.ext n42.ext).st s47 n42.blk (by decide))
     refine lw_e (oe_callf (vs := [.agg #[.bool na, .slice Aa la ca], .agg #[.bool nr32, .slice A33 n34 c35]]) co161 (ar2 (T rfl rfl) (T rfl rfl)) (over_ok h260 h261 (by have hu0 : u ≠ 0 := fun h0 => absurd (sgnI_zero.2 h0) (by assumption); first | exact Int.ne_of_gt (gI3_pos hu0) | exact Int.neg_ne_zero.2 (Int.ne_of_gt (gI3_pos hu0))) (by first | decide | omega) (by first | decide | omega)) ?_)
     rintro _ w272 ⟨nr262, A263, n264, c265, nr266, A267, n268, c269, rfl, e273, h270, h271⟩
     have E274 := below_ext E49 E49.size e273
     have lh270 := Num.len (by decide) h270
     have lh271 := Num.len (by decide) h271
     refine lw_v (.tuple #[.agg #[.bool nr262, .slice A263 n264 c265], .agg #[.bool nr266, .slice A267 n268 c269]]) (dv_move (T rfl rfl)) ?_
     refine lw_v (.agg #[.bool nr262, .slice A263 n264 c265]) (dv_extract (vs := #[.agg #[.bool nr262, .slice A263 n264 c265], .agg #[.bool nr266, .slice A267 n268 c269]]) (T rfl rfl) rfl) ?_
     refine lw_v (.agg #[.bool nr266, .slice A267 n268 c269]) (dv_extract (vs := #[.agg #[.bool nr262, .slice A263 n264 c265], .agg #[.bool nr266, .slice A267 n268 c269]]) (T rfl rfl) rfl) ?_
     refine lw_e (oe_alloc ze120 ?_)
     intro b275 w276 n277
     have N278 : w.heap.size ≤ b275 := n277.eq ▸ E274.size
     have H279 := (e273.blk H48)
     have : b40 < b275 := n277.eq ▸ lt_of_blk H279
     have E280 := below_ext E274 E274.size n277.ext
     refine lw_e (oe_alloc ze120 ?_)
     intro b281 w282 n283
     have N284 : w.heap.size ≤ b281 := n283.eq ▸ E280.size
     have : b275 < b281 := n283.eq ▸ lt_of_blk n277.blk
     have E285 := below_ext E280 E280.size n283.ext
     have H286 := (n283.ext.blk n277.blk)
     refine lw_e (oe_store (v := .agg #[.bool nr262, .slice A263 n264 c265]) (vs := [.bool nr262, .slice A263 n264 c265]) (l := [.bool nr262, .slice A263 n264 c265]) (T rfl rfl) (T rfl rfl) sz120 rfl rfl rfl H286 rfl ?_)
     intro w287 s288 H289
     have E290 := below_st E285 N278 s288
     have H291 := (s288.blk n283.blk (by omega))
     refine lw_e (oe_store (v := .agg #[.bool nr266, .slice A267 n268 c269]) (vs := [.bool nr266, .slice A267 n268 c269]) (l := [.bool nr266, .slice A267 n268 c269]) (T rfl rfl) (T rfl rfl) sz120 rfl rfl rfl H291 rfl ?_)
     intro w292 s293 H294
     have E295 := below_st E290 N284 s293
     refine lw_nil ?_
     refine rk_seq ?_
     refine rk_reg ?_
     refine lw_v (.pointer (some ⟨b1, 2, none⟩)) (dv_fieldAddr (a := ⟨b1, 0, none⟩) (a' := ⟨b1, 2, none⟩) fo122_1 (T rfl rfl) rfl) ?_
     have H296 := (s293.blk (s288.blk (n283.ext.blk (n277.ext.blk (e273.blk H50))) (by omega)) (by omega))
     refine lw_v (.agg #[.bool nb, .slice Ab lb cb]) (dv_loads (l := [.bool nb, .slice Ab lb cb]) agt120 sz120 (T rfl rfl) H296 rfl) ?_
     have H297 := (s293.blk (s288.blk (n283.ext.blk (n277.ext.blk H279)) (by omega)) (by omega))
     refine lw_v (.agg #[.bool nr32, .slice A33 n34 c35]) (dv_loads (l := [.bool nr32, .slice A33 n34 c35]) agt120 sz120 (T rfl rfl) H297 rfl) ?_
     have h298 := hb.ext E295
     have h299 := (((((h261.ext e273).ext n277.ext).ext n283.ext).st s288 H286 (by decide)).st s293 H291 (by decide))
     refine lw_e (oe_callf (vs := [.agg #[.bool nb, .slice Ab lb cb], .agg #[.bool nr32, .slice A33 n34 c35]]) co161 (ar2 (T rfl rfl) (T rfl rfl)) (over_ok h298 h299 (by have hu0 : u ≠ 0 := fun h0 => absurd (sgnI_zero.2 h0) (by assumption); first | exact Int.ne_of_gt (gI3_pos hu0) | exact Int.neg_ne_zero.2 (Int.ne_of_gt (gI3_pos hu0))) (by first | decide | omega) (by first | decide | omega)) ?_)
     rintro _ w310 ⟨nr300, A301, n302, c303, nr304, A305, n306, c307, rfl, e311, h308, h309⟩
     have E312 := below_ext E295 E295.size e311
     have lh308 := Num.len (by decide) h308
     have lh309 := Num.len (by decide) h309
     refine lw_v (.tuple #[.agg #[.bool nr300, .slice A301 n302 c303], .agg #[.bool nr304, .slice A305 n306 c307]]) (dv_move (T rfl rfl)) ?_
     refine lw_v (.agg #[.bool nr300, .slice A301 n302 c303]) (dv_extract (vs := #[.agg #[.bool nr300, .slice A301 n302 c303], .agg #[.bool nr304, .slice A305 n306 c307]]) (T rfl rfl) rfl) ?_
     refine lw_v (.agg #[.bool nr304, .slice A305 n306 c307]) (dv_extract (vs := #[.agg #[.bool nr300, .slice A301 n302 c303], .agg #[.bool nr304, .slice A305 n306 c307]]) (T rfl rfl) rfl) ?_
     refine lw_e (oe_alloc ze120 ?_)
     intro b313 w314 n315
     have N316 : w.heap.size ≤ b313 := n315.eq ▸ E312.size
     have H317 := (e311.blk H294)
     have : b281 < b313 := n315.eq ▸ lt_of_blk H317
     have E318 := below_ext E312 E312.size n315.ext
     refine lw_e (oe_alloc ze120 ?_)
     intro b319 w320 n321
     have N322 : w.heap.size ≤ b319 := n321.eq ▸ E318.size
     have : b313 < b319 := n321.eq ▸ lt_of_blk n315.blk
     have E323 := below_ext E318 E318.size n321.ext
     have H324 := (n321.ext.blk n315.blk)
     refine lw_e (oe_store (v := .agg #[.bool nr300, .slice A301 n302 c303]) (vs := [.bool nr300, .slice A301 n302 c303]) (l := [.bool nr300, .slice A301 n302 c303]) (T rfl rfl) (T rfl rfl) sz120 rfl rfl rfl H324 rfl ?_)
     intro w325 s326 H327
     have E328 := below_st E323 N316 s326
     have H329 := (s326.blk n321.blk (by omega))
     refine lw_e (oe_store (v := .agg #[.bool nr304, .slice A305 n306 c307]) (vs := [.bool nr304, .slice A305 n306 c307]) (l := [.bool nr304, .slice A305 n306 c307]) (T rfl rfl) (T rfl rfl) sz120 rfl rfl rfl H329 rfl ?_)
     intro w330 s331 H332
     have E333 := below_st E328 N322 s331
     refine lw_nil ?_
     refine rk_seq ?_
     refine rk_reg ?_
     refine lw_v (.pointer (some ⟨b1, 4, none⟩)) (dv_fieldAddr (a := ⟨b1, 0, none⟩) (a' := ⟨b1, 4, none⟩) fo122_2 (T rfl rfl) rfl) ?_
     have H334 := (s331.blk (s326.blk (n321.ext.blk (n315.ext.blk (e311.blk H296))) (by omega)) (by omega))
     refine lw_v (.agg #[.bool nm, .slice Am lm cm]) (dv_loads (l := [.bool nm, .slice Am lm cm]) agt120 sz120 (T rfl rfl) H334 rfl) ?_
     have H335 := (s331.blk (s326.blk (n321.ext.blk (n315.ext.blk (e311.blk H297))) (by omega)) (by omega))
     refine lw_v (.agg #[.bool nr32, .slice A33 n34 c35]) (dv_loads (l := [.bool nr32, .slice A33 n34 c35]) agt120 sz120 (T rfl rfl) H335 rfl) ?_
     have h336 := hm.ext E333
     have h337 := (((((h299.ext e311).ext n315.ext).ext n321.ext).st s326 H324 (by decide)).st s331 H329 (by decide))
     refine lw_e (oe_callf (vs := [.agg #[.bool nm, .slice Am lm cm], .agg #[.bool nr32, .slice A33 n34 c35]]) co161 (ar2 (T rfl rfl) (T rfl rfl)) (over_ok h336 h337 (by have hu0 : u ≠ 0 := fun h0 => absurd (sgnI_zero.2 h0) (by assumption); first | exact Int.ne_of_gt (gI3_pos hu0) | exact Int.neg_ne_zero.2 (Int.ne_of_gt (gI3_pos hu0))) (by first | decide | omega) (by first | decide | omega)) ?_)
     rintro _ w348 ⟨nr338, A339, n340, c341, nr342, A343, n344, c345, rfl, e349, h346, h347⟩
     have E350 := below_ext E333 E333.size e349
     have lh346 := Num.len (by decide) h346
     have lh347 := Num.len (by decide) h347
     refine lw_v (.tuple #[.agg #[.bool nr338, .slice A339 n340 c341], .agg #[.bool nr342, .slice A343 n344 c345]]) (dv_move (T rfl rfl)) ?_
     refine lw_v (.agg #[.bool nr338, .slice A339 n340 c341]) (dv_extract (vs := #[.agg #[.bool nr338, .slice A339 n340 c341], .agg #[.bool nr342, .slice A343 n344 c345]]) (T rfl rfl) rfl) ?_
     refine lw_v (.agg #[.bool nr342, .slice A343 n344 c345]) (dv_extract (vs := #[.agg #[.bool nr338, .slice A339 n340 c341], .agg #[.bool nr342, .slice A343 n344 c345]]) (T rfl rfl) rfl) ?_
     refine lw_e (oe_alloc ze120 ?_)
     intro b351 w352 n353
     have N354 : w.heap.size ≤ b351 := n353.eq ▸ E350.size
     have H355 := (e349.blk H332)
     have : b319 < b351 := n353.eq ▸ lt_of_blk H355
     have E356 := below_ext E350 E350.size n353.ext
     refine lw_e (oe_alloc ze120 ?_)
     intro b357 w358 n359
     have N360 : w.heap.size ≤ b357 := n359.eq ▸ E356.size
     have : b351 < b357 := n359.eq ▸ lt_of_blk n353.blk
     have E361 := below_ext E356 E356.size n359.ext
     have H362 := (n359.ext.blk n353.blk)
     refine lw_e (oe_store (v := .agg #[.bool nr338, .slice A339 n340 c341]) (vs := [.bool nr338, .slice A339 n340 c341]) (l := [.bool nr338, .slice A339 n340 c341]) (T rfl rfl) (T rfl rfl) sz120 rfl rfl rfl H362 rfl ?_)
     intro w363 s364 H365
     have E366 := below_st E361 N354 s364
     have H367 := (s364.blk n359.blk (by omega))
     refine lw_e (oe_store (v := .agg #[.bool nr342, .slice A343 n344 c345]) (vs := [.bool nr342, .slice A343 n344 c345]) (l := [.bool nr342, .slice A343 n344 c345]) (T rfl rfl) (T rfl rfl) sz120 rfl rfl rfl H367 rfl ?_)
     intro w368 s369 H370
     have E371 := below_st E366 N360 s369
     refine lw_nil ?_
     refine rk_seq ?_
     refine rk_seq ?_
     refine rk_any (fun w => w.heap[b275]? = some (.cells #[.bool nr262, .slice A263 n264 c265] 120) ∧ w.heap[b313]? = some (.cells #[.bool nr300, .slice A301 n302 c303] 120) ∧ w.heap[b351]? = some (.cells #[.bool nr338, .slice A339 n340 c341] 120)) [] mo ?_
     intro w372 d373
     have E374 := below_ext E371 E371.size d373.ext
     have H375 := (d373.ext.blk (s369.blk (s364.blk (n359.ext.blk (n353.ext.blk (e349.blk (s331.blk (s326.blk (n321.ext.blk (n315.ext.blk (e311.blk (s293.blk H289 (by omega))))) (by omega)) (by omega))))) (by omega)) (by omega)))
     have H376 := (d373.ext.blk (s369.blk (s364.blk (n359.ext.blk (n353.ext.blk (e349.blk (s331.blk H327 (by omega))))) (by omega)) (by omega)))
     have H377 := (d373.ext.blk (s369.blk H365 (by omega)))
     refine aw_load 0 (.agg #[.bool nr262, .slice A263 n264 c265]) rfl (by kernel_rfl) .none ⟨H375, H376, H377⟩ (fun _ s => dv_loads (l := [.bool nr262, .slice A263 n264 c265]) agt120 sz120 (T rfl rfl) s.1 rfl) ?_
     refine aw_load 2 (.agg #[.bool nr300, .slice A301 n302 c303]) rfl (by kernel_rfl) .none ⟨H375, H376, H377⟩ (fun _ s => dv_loads (l := [.bool nr300, .slice A301 n302 c303]) agt120 sz120 (T rfl rfl) s.2.1 rfl) ?_
     refine aw_load 4 (.agg #[.bool nr338, .slice A339 n340 c341]) rfl (by kernel_rfl) .none ⟨H375, H376, H377⟩ (fun _ s => dv_loads (l := [.bool nr338, .slice A339 n340 c341]) agt120 sz120 (T rfl rfl) s.2.2 rfl) ?_
     have h378 := (((((((((((((((h270.ext n277.ext).ext n283.ext).st s288 H286 (by decide)).st s293 H291 (by decide)).ext e311).ext n315.ext).ext n321.ext).st s326 H324 (by decide)).st s331 H329 (by decide)).ext e349).ext n353.ext).ext n359.ext).st s364 H362 (by decide)).st s369 H367 (by decide)).ext d373.ext)
     refine aw_one 1 rfl (by kernel_rfl) .none (oe_callf (vs := [.agg #[.bool nr262, .slice A263 n264 c265]]) co133 (ar1 (T rfl rfl)) (nsize_num h378 (by first | omega | (simp; done) | (simp; omega))) ?_)
     rintro _ w379 ⟨rfl, e380⟩
     have E381 := below_ext E374 E374.size e380
     have H382 := (e380.blk H375)
     have H383 := (e380.blk H376)
     have H384 := (e380.blk H377)
     refine ⟨.inr ⟨H382, H383, H384⟩, ?_⟩
     have h385 := (((((((((((h308.ext n315.ext).ext n321.ext).st s326 H324 (by decide)).st s331 H329 (by decide)).ext e349).ext n353.ext).ext n359.ext).st s364 H362 (by decide)).st s369 H367 (by decide)).ext d373.ext).ext e380)
     refine aw_one 3 rfl (by kernel_rfl) .none (oe_callf (vs := [.agg #[.bool nr300, .slice A301 n302 c303]]) co133 (ar1 (T rfl rfl)) (nsize_num h385 (by first | omega | (simp; done) | (simp; omega))) ?_)
     rintro _ w386 ⟨rfl, e387⟩
     have E388 := below_ext E381 E381.size e387
     have H389 := (e387.blk H382)
     have H390 := (e387.blk H383)
     have H391 := (e387.blk H384)
     refine ⟨.inr ⟨H389, H390, H391⟩, ?_⟩
     have h392 := (((((((h346.ext n353.ext).ext n359.ext).st s364 H362 (by decide)).st s369 H367 (by decide)).ext d373.ext).ext e380).ext e387)
     refine aw_one 5 rfl (by kernel_rfl) .none (oe_callf (vs := [.agg #[.bool nr338, .slice A339 n340 c341]]) co133 (ar1 (T rfl rfl)) (nsize_num h392 (by first | omega | (simp; done) | (simp; omega))) ?_)
     rintro _ w393 ⟨rfl, e394⟩
     have E395 := below_ext E388 E388.size e394
     have H396 := (e394.blk H389)
     have H397 := (e394.blk H390)
     have H398 := (e394.blk H391)
     refine ⟨.inr ⟨H396, H397, H398⟩, ?_⟩
     refine aw_pure 6 (.int .i64 (mx (mx ((nbits (x / (gI3 x y u)).natAbs : Int)) ((nbits (y / (gI3 x y u)).natAbs : Int))) ((nbits (u / (gI3 x y u)).natAbs : Int)))) rfl (by kernel_rfl) .none ⟨H396, H397, H398⟩ (fun _ => dv_max3 (a := (nbits (x / (gI3 x y u)).natAbs : Int)) (b := (nbits (y / (gI3 x y u)).natAbs : Int)) (c := (nbits (u / (gI3 x y u)).natAbs : Int)) (T rfl rfl) (T rfl rfl) (T rfl rfl)) ?_
     refine aw_pure 7 (.bool (decide (80 < (mx (mx ((nbits (x / (gI3 x y u)).natAbs : Int)) ((nbits (y / (gI3 x y u)).natAbs : Int))) ((nbits (u / (gI3 x y u)).natAbs : Int)))))) rfl (by kernel_rfl) .none ⟨H396, H397, H398⟩ (fun _ => dv_gtr (a := mx (mx ((nbits (x / (gI3 x y u)).natAbs : Int)) ((nbits (y / (gI3 x y u)).natAbs : Int))) ((nbits (u / (gI3 x y u)).natAbs : Int))) (b := 80) (T rfl rfl) C) ?_
     refine aw_done (by kernel_rfl) ?_
     by_cases hb399 : 80 < (mx (mx ((nbits (x / (gI3 x y u)).natAbs : Int)) ((nbits (y / (gI3 x y u)).natAbs : Int))) ((nbits (u / (gI3 x y u)).natAbs : Int)))
     · refine rk_ct (T rfl (congrArg Value.bool (decide_eq_true hb399))) ?_
       refine rk_seq ?_
       refine rk_reg ?_
       refine lw_v (.agg #[.int .u64 0, .int .u64 0, .int .u64 0, .int .u64 0, .int .u64 0, .int .u64 0, .int .u64 0, .int .u64 0, .int .u64 0, .int .u64 0, .int .u64 0, .int .u64 0]) (dv_build (pv := []) (l := [.int .u64 0, .int .u64 0, .int .u64 0, .int .u64 0, .int .u64 0, .int .u64 0, .int .u64 0, .int .u64 0, .int .u64 0, .int .u64 0, .int .u64 0, .int .u64 0]) zc37 pl37 trivial rfl) ?_
       have H400 := (e394.blk (e387.blk (e380.blk (d373.ext.blk (s369.blk (s364.blk (n359.ext.blk (n353.ext.blk (e349.blk (s331.blk (s326.blk (n321.ext.blk (n315.ext.blk (e311.blk (s293.blk (s288.blk (n283.ext.blk (n277.ext.blk (e273.blk (s47.blk (n42.ext.blk (e38.blk (n25.ext.blk H27))) (by omega))))) (by omega)) (by omega))))) (by omega)) (by omega))))) (by omega)) (by omega))))))
       refine lw_e (oe_store (v := .agg #[.int .u64 0, .int .u64 0, .int .u64 0, .int .u64 0, .int .u64 0, .int .u64 0, .int .u64 0, .int .u64 0, .int .u64 0, .int .u64 0, .int .u64 0, .int .u64 0]) (vs := [.int .u64 0, .int .u64 0, .int .u64 0, .int .u64 0, .int .u64 0, .int .u64 0, .int .u64 0, .int .u64 0, .int .u64 0, .int .u64 0, .int .u64 0, .int .u64 0]) (l := [.int .u64 0, .int .u64 0, .int .u64 0, .int .u64 0, .int .u64 0, .int .u64 0, .int .u64 0, .int .u64 0, .int .u64 0, .int .u64 0, .int .u64 0, .int .u64 0]) (T rfl rfl) (T rfl rfl) sz37 rfl rfl rfl H400 rfl ?_)
       intro w401 s402 H403
       have E404 := below_st E395 N9 s402
       refine lw_v (.bool false) (dv_assign C) ?_
       refine lw_nil ?_
       refine rk_ret Try.func102 (v := .tuple #[.agg #[.int .u64 0, .int .u64 0, .int .u64 0, .int .u64 0, .int .u64 0, .int .u64 0, .int .u64 0, .int .u64 0, .int .u64 0, .int .u64 0, .int .u64 0, .int .u64 0], .bool false]) (res2 Try.results102 (rv_cells (l := [.int .u64 0, .int .u64 0, .int .u64 0, .int .u64 0, .int .u64 0, .int .u64 0, .int .u64 0, .int .u64 0, .int .u64 0, .int .u64 0, .int .u64 0, .int .u64 0]) agt37 sz37 rfl rfl H403 rfl) (rv_tmp rfl rfl)) ⟨_, rfl, ?_⟩
       have ex : x / (gI3 x y u) = pPt x y u x := (pt_pos (fun hh => by have := hm.neg_iff.2 hh; simp_all))
       have ey : y / (gI3 x y u) = pPt x y u y := (pt_pos (fun hh => by have := hm.neg_iff.2 hh; simp_all))
       have eu : u / (gI3 x y u) = pPt x y u u := (pt_pos (fun hh => by have := hm.neg_iff.2 hh; simp_all))
       have h5 := mx3'.1 (by assumption)
       rw [ex, ey, eu] at h5
       have hS : ¬ pFit x y u := fun hh => h5 (sm3_iff.1 hh.2)
       exact ⟨(tu2 (ag12 (vi (wf3 hS)) (vi (wf2 hS)) (vi (wf1 hS)) (vi (wf0 hS)) (vi (wf3 hS)) (vi (wf2 hS)) (vi (wf1 hS)) (vi (wf0 hS)) (vi (wf3 hS)) (vi (wf2 hS)) (vi (wf1 hS)) (vi (wf0 hS))) (vf hS)), E404⟩
     · refine rk_cf (T rfl (congrArg Value.bool (decide_eq_false hb399))) ?_
       refine rk_skip ?_
       refine rk_seq ?_
       refine rk_reg ?_
       refine lw_v (.agg #[.int .u64 0, .int .u64 0, .int .u64 0, .int .u64 0, .int .u64 0, .int .u64 0, .int .u64 0, .int .u64 0, .int .u64 0, .int .u64 0, .int .u64 0, .int .u64 0]) (dv_build (pv := []) (l := [.int .u64 0, .int .u64 0, .int .u64 0, .int .u64 0, .int .u64 0, .int .u64 0, .int .u64 0, .int .u64 0, .int .u64 0, .int .u64 0, .int .u64 0, .int .u64 0]) zc37 pl37 trivial rfl) ?_
       refine lw_e (oe_alloc ze37 ?_)
       intro b405 w406 n407
       have N408 : w.heap.size ≤ b405 := n407.eq ▸ E395.size
       have H409 := (e394.blk (e387.blk (e380.blk (d373.ext.blk H370))))
       have : b357 < b405 := n407.eq ▸ lt_of_blk H409
       have E410 := below_ext E395 E395.size n407.ext
       refine lw_e (oe_store (v := .agg #[.int .u64 0, .int .u64 0, .int .u64 0, .int .u64 0, .int .u64 0, .int .u64 0, .int .u64 0, .int .u64 0, .int .u64 0, .int .u64 0, .int .u64 0, .int .u64 0]) (vs := [.int .u64 0, .int .u64 0, .int .u64 0, .int .u64 0, .int .u64 0, .int .u64 0, .int .u64 0, .int .u64 0, .int .u64 0, .int .u64 0, .int .u64 0, .int .u64 0]) (l := [.int .u64 0, .int .u64 0, .int .u64 0, .int .u64 0, .int .u64 0, .int .u64 0, .int .u64 0, .int .u64 0, .int .u64 0, .int .u64 0, .int .u64 0, .int .u64 0]) (T rfl rfl) (T rfl rfl) sz37 rfl rfl rfl n407.blk rfl ?_)
       intro w411 s412 H413
       have E414 := below_st E410 N408 s412
       refine lw_nil ?_
       refine rk_seq ?_
       refine rk_reg ?_
       have H415 := (s412.blk (n407.ext.blk H396) (by omega))
       refine lw_v (.agg #[.bool nr262, .slice A263 n264 c265]) (dv_loads (l := [.bool nr262, .slice A263 n264 c265]) agt120 sz120 (T rfl rfl) H415 rfl) ?_
       have h416 := (((((h378.ext e380).ext e387).ext e394).ext n407.ext).st s412 n407.blk (by decide))
       refine lw_e (oe_callf (vs := [.agg #[.bool nr262, .slice A263 n264 c265]]) co162 (ar1 (T rfl rfl)) (nwide_ok h416 (by first | decide | omega)) ?_)
       rintro _ w418 ⟨rfl, e419⟩
       have E420 := below_ext E414 E414.size e419
       have bw417 := w_rg (x / (gI3 x y u))
       refine lw_v (.tuple #[.agg #[.int .u64 (wv3 (x / (gI3 x y u))), .int .u64 (wv2 (x / (gI3 x y u))), .int .u64 (wv1 (x / (gI3 x y u))), .int .u64 (wv0 (x / (gI3 x y u)))], .bool (decide (fits (x / (gI3 x y u))))]) (dv_move (T rfl rfl)) ?_
       refine lw_v (.agg #[.int .u64 (wv3 (x / (gI3 x y u))), .int .u64 (wv2 (x / (gI3 x y u))), .int .u64 (wv1 (x / (gI3 x y u))), .int .u64 (wv0 (x / (gI3 x y u)))]) (dv_extract (vs := #[.agg #[.int .u64 (wv3 (x / (gI3 x y u))), .int .u64 (wv2 (x / (gI3 x y u))), .int .u64 (wv1 (x / (gI3 x y u))), .int .u64 (wv0 (x / (gI3 x y u)))], .bool (decide (fits (x / (gI3 x y u))))]) (T rfl rfl) rfl) ?_
       refine lw_v (.bool (decide (fits (x / (gI3 x y u))))) (dv_extract (vs := #[.agg #[.int .u64 (wv3 (x / (gI3 x y u))), .int .u64 (wv2 (x / (gI3 x y u))), .int .u64 (wv1 (x / (gI3 x y u))), .int .u64 (wv0 (x / (gI3 x y u)))], .bool (decide (fits (x / (gI3 x y u))))]) (T rfl rfl) rfl) ?_
       refine lw_v (.pointer (some ⟨b405, 0, none⟩)) (dv_fieldAddr (a := ⟨b405, 0, none⟩) (a' := ⟨b405, 0, none⟩) fo37_0 (T rfl rfl) rfl) ?_
       have H421 := (e419.blk H413)
       refine lw_e (oe_store (v := .agg #[.int .u64 (wv3 (x / (gI3 x y u))), .int .u64 (wv2 (x / (gI3 x y u))), .int .u64 (wv1 (x / (gI3 x y u))), .int .u64 (wv0 (x / (gI3 x y u)))]) (vs := [.int .u64 (wv3 (x / (gI3 x y u))), .int .u64 (wv2 (x / (gI3 x y u))), .int .u64 (wv1 (x / (gI3 x y u))), .int .u64 (wv0 (x / (gI3 x y u)))]) (l := [.int .u64 (wv3 (x / (gI3 x y u))), .int .u64 (wv2 (x / (gI3 x y u))), .int .u64 (wv1 (x / (gI3 x y u))), .int .u64 (wv0 (x / (gI3 x y u))), .int .u64 0, .int .u64 0, .int .u64 0, .int .u64 0, .int .u64 0, .int .u64 0, .int .u64 0, .int .u64 0]) (T rfl rfl) (T rfl rfl) sz35 rfl rfl rfl H421 rfl ?_)
       intro w422 s423 H424
       have E425 := below_st E420 N408 s423
       refine lw_nil ?_
       refine rk_seq ?_
       refine rk_reg ?_
       have H426 := (s423.blk (e419.blk (s412.blk (n407.ext.blk H397) (by omega))) (by omega))
       refine lw_v (.agg #[.bool nr300, .slice A301 n302 c303]) (dv_loads (l := [.bool nr300, .slice A301 n302 c303]) agt120 sz120 (T rfl rfl) H426 rfl) ?_
       have h427 := ((((((h385.ext e387).ext e394).ext n407.ext).st s412 n407.blk (by decide)).ext e419).st s423 H421 (by decide))
       refine lw_e (oe_callf (vs := [.agg #[.bool nr300, .slice A301 n302 c303]]) co162 (ar1 (T rfl rfl)) (nwide_ok h427 (by first | decide | omega)) ?_)
       rintro _ w429 ⟨rfl, e430⟩
       have E431 := below_ext E425 E425.size e430
       have bw428 := w_rg (y / (gI3 x y u))
       refine lw_v (.tuple #[.agg #[.int .u64 (wv3 (y / (gI3 x y u))), .int .u64 (wv2 (y / (gI3 x y u))), .int .u64 (wv1 (y / (gI3 x y u))), .int .u64 (wv0 (y / (gI3 x y u)))], .bool (decide (fits (y / (gI3 x y u))))]) (dv_move (T rfl rfl)) ?_
       refine lw_v (.agg #[.int .u64 (wv3 (y / (gI3 x y u))), .int .u64 (wv2 (y / (gI3 x y u))), .int .u64 (wv1 (y / (gI3 x y u))), .int .u64 (wv0 (y / (gI3 x y u)))]) (dv_extract (vs := #[.agg #[.int .u64 (wv3 (y / (gI3 x y u))), .int .u64 (wv2 (y / (gI3 x y u))), .int .u64 (wv1 (y / (gI3 x y u))), .int .u64 (wv0 (y / (gI3 x y u)))], .bool (decide (fits (y / (gI3 x y u))))]) (T rfl rfl) rfl) ?_
       refine lw_v (.bool (decide (fits (y / (gI3 x y u))))) (dv_extract (vs := #[.agg #[.int .u64 (wv3 (y / (gI3 x y u))), .int .u64 (wv2 (y / (gI3 x y u))), .int .u64 (wv1 (y / (gI3 x y u))), .int .u64 (wv0 (y / (gI3 x y u)))], .bool (decide (fits (y / (gI3 x y u))))]) (T rfl rfl) rfl) ?_
       refine lw_v (.pointer (some ⟨b405, 4, none⟩)) (dv_fieldAddr (a := ⟨b405, 0, none⟩) (a' := ⟨b405, 4, none⟩) fo37_1 (T rfl rfl) rfl) ?_
       have H432 := (e430.blk H424)
       refine lw_e (oe_store (v := .agg #[.int .u64 (wv3 (y / (gI3 x y u))), .int .u64 (wv2 (y / (gI3 x y u))), .int .u64 (wv1 (y / (gI3 x y u))), .int .u64 (wv0 (y / (gI3 x y u)))]) (vs := [.int .u64 (wv3 (y / (gI3 x y u))), .int .u64 (wv2 (y / (gI3 x y u))), .int .u64 (wv1 (y / (gI3 x y u))), .int .u64 (wv0 (y / (gI3 x y u)))]) (l := [.int .u64 (wv3 (x / (gI3 x y u))), .int .u64 (wv2 (x / (gI3 x y u))), .int .u64 (wv1 (x / (gI3 x y u))), .int .u64 (wv0 (x / (gI3 x y u))), .int .u64 (wv3 (y / (gI3 x y u))), .int .u64 (wv2 (y / (gI3 x y u))), .int .u64 (wv1 (y / (gI3 x y u))), .int .u64 (wv0 (y / (gI3 x y u))), .int .u64 0, .int .u64 0, .int .u64 0, .int .u64 0]) (T rfl rfl) (T rfl rfl) sz35 rfl rfl rfl H432 rfl ?_)
       intro w433 s434 H435
       have E436 := below_st E431 N408 s434
       refine lw_nil ?_
       refine rk_seq ?_
       refine rk_reg ?_
       have H437 := (s434.blk (e430.blk (s423.blk (e419.blk (s412.blk (n407.ext.blk H398) (by omega))) (by omega))) (by omega))
       refine lw_v (.agg #[.bool nr338, .slice A339 n340 c341]) (dv_loads (l := [.bool nr338, .slice A339 n340 c341]) agt120 sz120 (T rfl rfl) H437 rfl) ?_
       have h438 := (((((((h392.ext e394).ext n407.ext).st s412 n407.blk (by decide)).ext e419).st s423 H421 (by decide)).ext e430).st s434 H432 (by decide))
       refine lw_e (oe_callf (vs := [.agg #[.bool nr338, .slice A339 n340 c341]]) co162 (ar1 (T rfl rfl)) (nwide_ok h438 (by first | decide | omega)) ?_)
       rintro _ w440 ⟨rfl, e441⟩
       have E442 := below_ext E436 E436.size e441
       have bw439 := w_rg (u / (gI3 x y u))
       refine lw_v (.tuple #[.agg #[.int .u64 (wv3 (u / (gI3 x y u))), .int .u64 (wv2 (u / (gI3 x y u))), .int .u64 (wv1 (u / (gI3 x y u))), .int .u64 (wv0 (u / (gI3 x y u)))], .bool (decide (fits (u / (gI3 x y u))))]) (dv_move (T rfl rfl)) ?_
       refine lw_v (.agg #[.int .u64 (wv3 (u / (gI3 x y u))), .int .u64 (wv2 (u / (gI3 x y u))), .int .u64 (wv1 (u / (gI3 x y u))), .int .u64 (wv0 (u / (gI3 x y u)))]) (dv_extract (vs := #[.agg #[.int .u64 (wv3 (u / (gI3 x y u))), .int .u64 (wv2 (u / (gI3 x y u))), .int .u64 (wv1 (u / (gI3 x y u))), .int .u64 (wv0 (u / (gI3 x y u)))], .bool (decide (fits (u / (gI3 x y u))))]) (T rfl rfl) rfl) ?_
       refine lw_v (.bool (decide (fits (u / (gI3 x y u))))) (dv_extract (vs := #[.agg #[.int .u64 (wv3 (u / (gI3 x y u))), .int .u64 (wv2 (u / (gI3 x y u))), .int .u64 (wv1 (u / (gI3 x y u))), .int .u64 (wv0 (u / (gI3 x y u)))], .bool (decide (fits (u / (gI3 x y u))))]) (T rfl rfl) rfl) ?_
       refine lw_v (.pointer (some ⟨b405, 8, none⟩)) (dv_fieldAddr (a := ⟨b405, 0, none⟩) (a' := ⟨b405, 8, none⟩) fo37_2 (T rfl rfl) rfl) ?_
       have H443 := (e441.blk H435)
       refine lw_e (oe_store (v := .agg #[.int .u64 (wv3 (u / (gI3 x y u))), .int .u64 (wv2 (u / (gI3 x y u))), .int .u64 (wv1 (u / (gI3 x y u))), .int .u64 (wv0 (u / (gI3 x y u)))]) (vs := [.int .u64 (wv3 (u / (gI3 x y u))), .int .u64 (wv2 (u / (gI3 x y u))), .int .u64 (wv1 (u / (gI3 x y u))), .int .u64 (wv0 (u / (gI3 x y u)))]) (l := [.int .u64 (wv3 (x / (gI3 x y u))), .int .u64 (wv2 (x / (gI3 x y u))), .int .u64 (wv1 (x / (gI3 x y u))), .int .u64 (wv0 (x / (gI3 x y u))), .int .u64 (wv3 (y / (gI3 x y u))), .int .u64 (wv2 (y / (gI3 x y u))), .int .u64 (wv1 (y / (gI3 x y u))), .int .u64 (wv0 (y / (gI3 x y u))), .int .u64 (wv3 (u / (gI3 x y u))), .int .u64 (wv2 (u / (gI3 x y u))), .int .u64 (wv1 (u / (gI3 x y u))), .int .u64 (wv0 (u / (gI3 x y u)))]) (T rfl rfl) (T rfl rfl) sz35 rfl rfl rfl H443 rfl ?_)
       intro w444 s445 H446
       have E447 := below_st E442 N408 s445
       refine lw_nil ?_
       refine rk_seq ?_
       refine rk_reg ?_
       refine lw_v (.agg #[.int .u64 (wv3 (x / (gI3 x y u))), .int .u64 (wv2 (x / (gI3 x y u))), .int .u64 (wv1 (x / (gI3 x y u))), .int .u64 (wv0 (x / (gI3 x y u))), .int .u64 (wv3 (y / (gI3 x y u))), .int .u64 (wv2 (y / (gI3 x y u))), .int .u64 (wv1 (y / (gI3 x y u))), .int .u64 (wv0 (y / (gI3 x y u))), .int .u64 (wv3 (u / (gI3 x y u))), .int .u64 (wv2 (u / (gI3 x y u))), .int .u64 (wv1 (u / (gI3 x y u))), .int .u64 (wv0 (u / (gI3 x y u)))]) (dv_loads (l := [.int .u64 (wv3 (x / (gI3 x y u))), .int .u64 (wv2 (x / (gI3 x y u))), .int .u64 (wv1 (x / (gI3 x y u))), .int .u64 (wv0 (x / (gI3 x y u))), .int .u64 (wv3 (y / (gI3 x y u))), .int .u64 (wv2 (y / (gI3 x y u))), .int .u64 (wv1 (y / (gI3 x y u))), .int .u64 (wv0 (y / (gI3 x y u))), .int .u64 (wv3 (u / (gI3 x y u))), .int .u64 (wv2 (u / (gI3 x y u))), .int .u64 (wv1 (u / (gI3 x y u))), .int .u64 (wv0 (u / (gI3 x y u)))]) agt37 sz37 (T rfl rfl) H446 rfl) ?_
       have H448 := (s445.blk (e441.blk (s434.blk (e430.blk (s423.blk (e419.blk (s412.blk (n407.ext.blk (e394.blk (e387.blk (e380.blk (d373.ext.blk (s369.blk (s364.blk (n359.ext.blk (n353.ext.blk (e349.blk (s331.blk (s326.blk (n321.ext.blk (n315.ext.blk (e311.blk (s293.blk (s288.blk (n283.ext.blk (n277.ext.blk (e273.blk (s47.blk (n42.ext.blk (e38.blk (n25.ext.blk H27))) (by omega))))) (by omega)) (by omega))))) (by omega)) (by omega))))) (by omega)) (by omega))))))) (by omega))) (by omega))) (by omega))) (by omega))
       refine lw_e (oe_store (v := .agg #[.int .u64 (wv3 (x / (gI3 x y u))), .int .u64 (wv2 (x / (gI3 x y u))), .int .u64 (wv1 (x / (gI3 x y u))), .int .u64 (wv0 (x / (gI3 x y u))), .int .u64 (wv3 (y / (gI3 x y u))), .int .u64 (wv2 (y / (gI3 x y u))), .int .u64 (wv1 (y / (gI3 x y u))), .int .u64 (wv0 (y / (gI3 x y u))), .int .u64 (wv3 (u / (gI3 x y u))), .int .u64 (wv2 (u / (gI3 x y u))), .int .u64 (wv1 (u / (gI3 x y u))), .int .u64 (wv0 (u / (gI3 x y u)))]) (vs := [.int .u64 (wv3 (x / (gI3 x y u))), .int .u64 (wv2 (x / (gI3 x y u))), .int .u64 (wv1 (x / (gI3 x y u))), .int .u64 (wv0 (x / (gI3 x y u))), .int .u64 (wv3 (y / (gI3 x y u))), .int .u64 (wv2 (y / (gI3 x y u))), .int .u64 (wv1 (y / (gI3 x y u))), .int .u64 (wv0 (y / (gI3 x y u))), .int .u64 (wv3 (u / (gI3 x y u))), .int .u64 (wv2 (u / (gI3 x y u))), .int .u64 (wv1 (u / (gI3 x y u))), .int .u64 (wv0 (u / (gI3 x y u)))]) (l := [.int .u64 (wv3 (x / (gI3 x y u))), .int .u64 (wv2 (x / (gI3 x y u))), .int .u64 (wv1 (x / (gI3 x y u))), .int .u64 (wv0 (x / (gI3 x y u))), .int .u64 (wv3 (y / (gI3 x y u))), .int .u64 (wv2 (y / (gI3 x y u))), .int .u64 (wv1 (y / (gI3 x y u))), .int .u64 (wv0 (y / (gI3 x y u))), .int .u64 (wv3 (u / (gI3 x y u))), .int .u64 (wv2 (u / (gI3 x y u))), .int .u64 (wv1 (u / (gI3 x y u))), .int .u64 (wv0 (u / (gI3 x y u)))]) (T rfl rfl) (T rfl rfl) sz37 rfl rfl rfl H448 rfl ?_)
       intro w449 s450 H451
       have E452 := below_st E447 N9 s450
       refine lw_v (.bool true) (dv_assign C) ?_
       refine lw_nil ?_
       refine rk_ret Try.func102 (v := .tuple #[.agg #[.int .u64 (wv3 (x / (gI3 x y u))), .int .u64 (wv2 (x / (gI3 x y u))), .int .u64 (wv1 (x / (gI3 x y u))), .int .u64 (wv0 (x / (gI3 x y u))), .int .u64 (wv3 (y / (gI3 x y u))), .int .u64 (wv2 (y / (gI3 x y u))), .int .u64 (wv1 (y / (gI3 x y u))), .int .u64 (wv0 (y / (gI3 x y u))), .int .u64 (wv3 (u / (gI3 x y u))), .int .u64 (wv2 (u / (gI3 x y u))), .int .u64 (wv1 (u / (gI3 x y u))), .int .u64 (wv0 (u / (gI3 x y u)))], .bool true]) (res2 Try.results102 (rv_cells (l := [.int .u64 (wv3 (x / (gI3 x y u))), .int .u64 (wv2 (x / (gI3 x y u))), .int .u64 (wv1 (x / (gI3 x y u))), .int .u64 (wv0 (x / (gI3 x y u))), .int .u64 (wv3 (y / (gI3 x y u))), .int .u64 (wv2 (y / (gI3 x y u))), .int .u64 (wv1 (y / (gI3 x y u))), .int .u64 (wv0 (y / (gI3 x y u))), .int .u64 (wv3 (u / (gI3 x y u))), .int .u64 (wv2 (u / (gI3 x y u))), .int .u64 (wv1 (u / (gI3 x y u))), .int .u64 (wv0 (u / (gI3 x y u)))]) agt37 sz37 rfl rfl H451 rfl) (rv_tmp rfl rfl)) ⟨_, rfl, ?_⟩
       have ex : x / (gI3 x y u) = pPt x y u x := (pt_pos (fun hh => by have := hm.neg_iff.2 hh; simp_all))
       have ey : y / (gI3 x y u) = pPt x y u y := (pt_pos (fun hh => by have := hm.neg_iff.2 hh; simp_all))
       have eu : u / (gI3 x y u) = pPt x y u u := (pt_pos (fun hh => by have := hm.neg_iff.2 hh; simp_all))
       have h5 := mx3.1 (Int.not_lt.1 (by assumption))
       rw [ex, ey, eu] at h5
       have hS : pFit x y u := ⟨fun h0 => absurd (sgnI_zero.2 h0) (by assumption), sm3_iff.2 h5⟩
       exact ⟨(tu2 (ag12 (vi (by rw [pkz_t hS, ex])) (vi (by rw [pkz_t hS, ex])) (vi (by rw [pkz_t hS, ex])) (vi (by rw [pkz_t hS, ex])) (vi (by rw [pkz_t hS, ey])) (vi (by rw [pkz_t hS, ey])) (vi (by rw [pkz_t hS, ey])) (vi (by rw [pkz_t hS, ey])) (vi (by rw [pkz_t hS, eu])) (vi (by rw [pkz_t hS, eu])) (vi (by rw [pkz_t hS, eu])) (vi (by rw [pkz_t hS, eu]))) (vt hS)), E452⟩
set_option maxHeartbeats 1000000 in
theorem eqPoint_ok {w : World} {x y u p q r : Int} (fx_ : fits x) (fy_ : fits y) (fu_ : fits u) (fp_ : fits p) (fq_ : fits q) (fr_ : fits r)  : Ct Try.prog 40 [.agg #[.int .u64 (wv3 x), .int .u64 (wv2 x), .int .u64 (wv1 x), .int .u64 (wv0 x), .int .u64 (wv3 y), .int .u64 (wv2 y), .int .u64 (wv1 y), .int .u64 (wv0 y), .int .u64 (wv3 u), .int .u64 (wv2 u), .int .u64 (wv1 u), .int .u64 (wv0 u)], .agg #[.int .u64 (wv3 p), .int .u64 (wv2 p), .int .u64 (wv1 p), .int .u64 (wv0 p), .int .u64 (wv3 q), .int .u64 (wv2 q), .int .u64 (wv1 q), .int .u64 (wv0 q), .int .u64 (wv3 r), .int .u64 (wv2 r), .int .u64 (wv1 r), .int .u64 (wv0 r)]] w fun v w1 => v = .bool (decide (x = p ∧ y = q ∧ u = r)) ∧ Ext w w1 := by
 refine ct_run (n := 23) Try.func40 rfl Try.ntmps40 rfl ?_
 have E0 : Below w.heap.size w w := Below.refl _ _
 refine rk_seq ?_
 refine rk_reg ?_
 refine lw_e (oe_box (v := .agg #[.int .u64 (wv3 x), .int .u64 (wv2 x), .int .u64 (wv1 x), .int .u64 (wv0 x), .int .u64 (wv3 y), .int .u64 (wv2 y), .int .u64 (wv1 y), .int .u64 (wv0 y), .int .u64 (wv3 u), .int .u64 (wv2 u), .int .u64 (wv1 u), .int .u64 (wv0 u)]) (cs := #[.int .u64 (wv3 x), .int .u64 (wv2 x), .int .u64 (wv1 x), .int .u64 (wv0 x), .int .u64 (wv3 y), .int .u64 (wv2 y), .int .u64 (wv1 y), .int .u64 (wv0 y), .int .u64 (wv3 u), .int .u64 (wv2 u), .int .u64 (wv1 u), .int .u64 (wv0 u)]) (T rfl rfl) rfl ?_)
 intro b1 w2 n3
 have N4 : w.heap.size ≤ b1 := n3.eq ▸ E0.size
 have E5 := below_ext E0 E0.size n3.ext
 refine lw_e (oe_box (v := .agg #[.int .u64 (wv3 p), .int .u64 (wv2 p), .int .u64 (wv1 p), .int .u64 (wv0 p), .int .u64 (wv3 q), .int .u64 (wv2 q), .int .u64 (wv1 q), .int .u64 (wv0 q), .int .u64 (wv3 r), .int .u64 (wv2 r), .int .u64 (wv1 r), .int .u64 (wv0 r)]) (cs := #[.int .u64 (wv3 p), .int .u64 (wv2 p), .int .u64 (wv1 p), .int .u64 (wv0 p), .int .u64 (wv3 q), .int .u64 (wv2 q), .int .u64 (wv1 q), .int .u64 (wv0 q), .int .u64 (wv3 r), .int .u64 (wv2 r), .int .u64 (wv1 r), .int .u64 (wv0 r)]) (T rfl rfl) rfl ?_)
 intro b6 w7 n8
 have N9 : w.heap.size ≤ b6 := n8.eq ▸ E5.size
 have : b1 < b6 := n8.eq ▸ lt_of_blk n3.blk
 have E10 := below_ext E5 E5.size n8.ext
 refine lw_v (.bool false) (dv_assign C) ?_
 refine lw_nil ?_
 refine rk_seq ?_
 refine rk_seq ?_
 refine rk_reg ?_
 refine lw_v (.pointer (some ⟨b1, 0, none⟩)) (dv_fieldAddr (a := ⟨b1, 0, none⟩) (a' := ⟨b1, 0, none⟩) fo37_0 (T rfl rfl) rfl) ?_
 have H11 := (n8.ext.blk n3.blk)
 refine lw_v (.agg #[.int .u64 (wv3 x), .int .u64 (wv2 x), .int .u64 (wv1 x), .int .u64 (wv0 x)]) (dv_loads (l := [.int .u64 (wv3 x), .int .u64 (wv2 x), .int .u64 (wv1 x), .int .u64 (wv0 x)]) agt35 sz35 (T rfl rfl) H11 rfl) ?_
 refine lw_v (.pointer (some ⟨b6, 0, none⟩)) (dv_fieldAddr (a := ⟨b6, 0, none⟩) (a' := ⟨b6, 0, none⟩) fo37_0 (T rfl rfl) rfl) ?_
 refine lw_v (.agg #[.int .u64 (wv3 p), .int .u64 (wv2 p), .int .u64 (wv1 p), .int .u64 (wv0 p)]) (dv_loads (l := [.int .u64 (wv3 p), .int .u64 (wv2 p), .int .u64 (wv1 p), .int .u64 (wv0 p)]) agt35 sz35 (T rfl rfl) n8.blk rfl) ?_
 refine lw_e (oe_callf (vs := [.agg #[.int .u64 (wv3 x), .int .u64 (wv2 x), .int .u64 (wv1 x), .int .u64 (wv0 x)], .agg #[.int .u64 (wv3 p), .int .u64 (wv2 p), .int .u64 (wv1 p), .int .u64 (wv0 p)]]) co103 (ar2 (T rfl rfl) (T rfl rfl)) (eqWide_ok (x := x) (y := p) fx_ fp_ ) ?_)
 rintro _ w12 ⟨rfl, e13⟩
 have E14 := below_ext E10 E10.size e13
 refine lw_v (.bool (decide (¬ (x = p)))) (dv_notd (p := x = p) (T rfl rfl)) ?_
 refine lw_nil ?_
 by_cases hb15 : x = p
 · refine rk_cf (T rfl (congrArg Value.bool (decide_eq_false (not_not_intro hb15)))) ?_
   refine rk_skip ?_
   refine rk_seq ?_
   refine rk_seq ?_
   refine rk_reg ?_
   refine lw_v (.pointer (some ⟨b1, 4, none⟩)) (dv_fieldAddr (a := ⟨b1, 0, none⟩) (a' := ⟨b1, 4, none⟩) fo37_1 (T rfl rfl) rfl) ?_
   have H16 := (e13.blk H11)
   refine lw_v (.agg #[.int .u64 (wv3 y), .int .u64 (wv2 y), .int .u64 (wv1 y), .int .u64 (wv0 y)]) (dv_loads (l := [.int .u64 (wv3 y), .int .u64 (wv2 y), .int .u64 (wv1 y), .int .u64 (wv0 y)]) agt35 sz35 (T rfl rfl) H16 rfl) ?_
   refine lw_v (.pointer (some ⟨b6, 4, none⟩)) (dv_fieldAddr (a := ⟨b6, 0, none⟩) (a' := ⟨b6, 4, none⟩) fo37_1 (T rfl rfl) rfl) ?_
   have H17 := (e13.blk n8.blk)
   refine lw_v (.agg #[.int .u64 (wv3 q), .int .u64 (wv2 q), .int .u64 (wv1 q), .int .u64 (wv0 q)]) (dv_loads (l := [.int .u64 (wv3 q), .int .u64 (wv2 q), .int .u64 (wv1 q), .int .u64 (wv0 q)]) agt35 sz35 (T rfl rfl) H17 rfl) ?_
   refine lw_e (oe_callf (vs := [.agg #[.int .u64 (wv3 y), .int .u64 (wv2 y), .int .u64 (wv1 y), .int .u64 (wv0 y)], .agg #[.int .u64 (wv3 q), .int .u64 (wv2 q), .int .u64 (wv1 q), .int .u64 (wv0 q)]]) co103 (ar2 (T rfl rfl) (T rfl rfl)) (eqWide_ok (x := y) (y := q) fy_ fq_ ) ?_)
   rintro _ w18 ⟨rfl, e19⟩
   have E20 := below_ext E14 E14.size e19
   refine lw_v (.bool (decide (¬ (y = q)))) (dv_notd (p := y = q) (T rfl rfl)) ?_
   refine lw_nil ?_
   by_cases hb21 : y = q
   · refine rk_cf (T rfl (congrArg Value.bool (decide_eq_false (not_not_intro hb21)))) ?_
     refine rk_skip ?_
     refine rk_seq ?_
     refine rk_seq ?_
     refine rk_reg ?_
     refine lw_v (.pointer (some ⟨b1, 8, none⟩)) (dv_fieldAddr (a := ⟨b1, 0, none⟩) (a' := ⟨b1, 8, none⟩) fo37_2 (T rfl rfl) rfl) ?_
     have H22 := (e19.blk H16)
     refine lw_v (.agg #[.int .u64 (wv3 u), .int .u64 (wv2 u), .int .u64 (wv1 u), .int .u64 (wv0 u)]) (dv_loads (l := [.int .u64 (wv3 u), .int .u64 (wv2 u), .int .u64 (wv1 u), .int .u64 (wv0 u)]) agt35 sz35 (T rfl rfl) H22 rfl) ?_
     refine lw_v (.pointer (some ⟨b6, 8, none⟩)) (dv_fieldAddr (a := ⟨b6, 0, none⟩) (a' := ⟨b6, 8, none⟩) fo37_2 (T rfl rfl) rfl) ?_
     have H23 := (e19.blk H17)
     refine lw_v (.agg #[.int .u64 (wv3 r), .int .u64 (wv2 r), .int .u64 (wv1 r), .int .u64 (wv0 r)]) (dv_loads (l := [.int .u64 (wv3 r), .int .u64 (wv2 r), .int .u64 (wv1 r), .int .u64 (wv0 r)]) agt35 sz35 (T rfl rfl) H23 rfl) ?_
     refine lw_e (oe_callf (vs := [.agg #[.int .u64 (wv3 u), .int .u64 (wv2 u), .int .u64 (wv1 u), .int .u64 (wv0 u)], .agg #[.int .u64 (wv3 r), .int .u64 (wv2 r), .int .u64 (wv1 r), .int .u64 (wv0 r)]]) co103 (ar2 (T rfl rfl) (T rfl rfl)) (eqWide_ok (x := u) (y := r) fu_ fr_ ) ?_)
     rintro _ w24 ⟨rfl, e25⟩
     have E26 := below_ext E20 E20.size e25
     refine lw_v (.bool (decide (¬ (u = r)))) (dv_notd (p := u = r) (T rfl rfl)) ?_
     refine lw_nil ?_
     by_cases hb27 : u = r
     · refine rk_cf (T rfl (congrArg Value.bool (decide_eq_false (not_not_intro hb27)))) ?_
       refine rk_skip ?_
       refine rk_seq ?_
       refine rk_reg ?_
       refine lw_v (.bool true) (dv_assign C) ?_
       refine lw_nil ?_
       refine rk_ret Try.func40 (v := .bool true) (res1 Try.results40 (rv_tmp rfl rfl)) ⟨_, rfl, ?_⟩
       exact ⟨(vt (by omega)), E26⟩
     · refine rk_ct (T rfl (congrArg Value.bool (decide_eq_true hb27))) ?_
       refine rk_seq ?_
       refine rk_reg ?_
       refine lw_v (.bool false) (dv_assign C) ?_
       refine lw_nil ?_
       refine rk_ret Try.func40 (v := .bool false) (res1 Try.results40 (rv_tmp rfl rfl)) ⟨_, rfl, ?_⟩
       exact ⟨(vf (by omega)), E26⟩
   · refine rk_ct (T rfl (congrArg Value.bool (decide_eq_true hb21))) ?_
     refine rk_seq ?_
     refine rk_reg ?_
     refine lw_v (.bool false) (dv_assign C) ?_
     refine lw_nil ?_
     refine rk_ret Try.func40 (v := .bool false) (res1 Try.results40 (rv_tmp rfl rfl)) ⟨_, rfl, ?_⟩
     exact ⟨(vf (by omega)), E20⟩
 · refine rk_ct (T rfl (congrArg Value.bool (decide_eq_true hb15))) ?_
   refine rk_seq ?_
   refine rk_reg ?_
   refine lw_v (.bool false) (dv_assign C) ?_
   refine lw_nil ?_
   refine rk_ret Try.func40 (v := .bool false) (res1 Try.results40 (rv_tmp rfl rfl)) ⟨_, rfl, ?_⟩
   exact ⟨(vf (by omega)), E14⟩
end Go.Proofs.Ytdanhdbanfpghaa.W
