/- Wk23: walks, written by a program of this session. -/
import Derived.Test.YtpnjkjahfklfnaaWk19
import Derived.Test.YtpnjkjahfklfnaaMa17
set_option linter.unusedVariables false
set_option linter.unusedSimpArgs false
namespace Go.Proofs.Ytpnjkjahfklfnaa.W
open Go Go.RowKit Go.Proofs.Ytpnjkjahfklfnaa.Fw
attribute [local irreducible] RunK LW AW DV OE Ct
theorem agt24 : aggB Try.prog 24 = some true := by kernel_rfl
theorem agt46 : aggB Try.prog 46 = some true := by kernel_rfl
theorem co16 : callOk Try.prog 16 = true := by kernel_rfl
theorem fo43_0 : fieldOffB Try.prog 43 0 = some 0 := by kernel_rfl
theorem fo43_1 : fieldOffB Try.prog 43 1 = some 4 := by kernel_rfl
theorem fo43_2 : fieldOffB Try.prog 43 2 = some 8 := by kernel_rfl
theorem fo46_0 : fieldOffB Try.prog 46 0 = some 0 := by kernel_rfl
theorem fo46_1 : fieldOffB Try.prog 46 1 = some 4 := by kernel_rfl
theorem fo46_2 : fieldOffB Try.prog 46 2 = some 8 := by kernel_rfl
theorem fo92_0 : fieldOffB Try.prog 92 0 = some 0 := by kernel_rfl
theorem fo92_1 : fieldOffB Try.prog 92 1 = some 2 := by kernel_rfl
theorem fo92_2 : fieldOffB Try.prog 92 2 = some 4 := by kernel_rfl
theorem sz24 : sizeB Try.prog 24 = some 4 := by kernel_rfl
theorem sz46 : sizeB Try.prog 46 = some 12 := by kernel_rfl
theorem ze46 : zeroB Try.prog 46 = some #[.int .u64 0, .int .u64 0, .int .u64 0, .int .u64 0, .int .u64 0, .int .u64 0, .int .u64 0, .int .u64 0, .int .u64 0, .int .u64 0, .int .u64 0, .int .u64 0] := by kernel_rfl
set_option maxHeartbeats 1000000 in
theorem toPoint_ok {w : World} {x y u : Int}   : Ct Try.prog 31 [.agg #[.int .u64 (wv3 x), .int .u64 (wv2 x), .int .u64 (wv1 x), .int .u64 (wv0 x), .int .u64 (wv3 y), .int .u64 (wv2 y), .int .u64 (wv1 y), .int .u64 (wv0 y), .int .u64 (wv3 u), .int .u64 (wv2 u), .int .u64 (wv1 u), .int .u64 (wv0 u)]] w fun v w1 => v = .agg #[.int .u64 (wv3 x), .int .u64 (wv2 x), .int .u64 (wv1 x), .int .u64 (wv0 x), .int .u64 (wv3 y), .int .u64 (wv2 y), .int .u64 (wv1 y), .int .u64 (wv0 y), .int .u64 (wv3 u), .int .u64 (wv2 u), .int .u64 (wv1 u), .int .u64 (wv0 u)] ∧ Ext w w1 := by
  refine ct_run (n := 17) Try.func31 rfl Try.ntmps31 rfl ?_
  have E0 : Below w.heap.size w w := Below.refl _ _
  refine rk_seq ?_
  refine rk_reg ?_
  refine lw_e (oe_box (v := .agg #[.int .u64 (wv3 x), .int .u64 (wv2 x), .int .u64 (wv1 x), .int .u64 (wv0 x), .int .u64 (wv3 y), .int .u64 (wv2 y), .int .u64 (wv1 y), .int .u64 (wv0 y), .int .u64 (wv3 u), .int .u64 (wv2 u), .int .u64 (wv1 u), .int .u64 (wv0 u)]) (cs := #[.int .u64 (wv3 x), .int .u64 (wv2 x), .int .u64 (wv1 x), .int .u64 (wv0 x), .int .u64 (wv3 y), .int .u64 (wv2 y), .int .u64 (wv1 y), .int .u64 (wv0 y), .int .u64 (wv3 u), .int .u64 (wv2 u), .int .u64 (wv1 u), .int .u64 (wv0 u)]) (T rfl rfl) rfl ?_)
  intro b1 w2 n3
  have N4 : w.heap.size ≤ b1 := n3.eq ▸ E0.size
  have E5 := below_ext E0 E0.size n3.ext
  refine lw_e (oe_alloc ze46 ?_)
  intro b6 w7 n8
  have N9 : w.heap.size ≤ b6 := n8.eq ▸ E5.size
  have : b1 < b6 := n8.eq ▸ lt_of_blk n3.blk
  have E10 := below_ext E5 E5.size n8.ext
  refine lw_nil ?_
  refine rk_seq ?_
  refine rk_reg ?_
  refine lw_e (oe_alloc ze46 ?_)
  intro b11 w12 n13
  have N14 : w.heap.size ≤ b11 := n13.eq ▸ E10.size
  have : b6 < b11 := n13.eq ▸ lt_of_blk n8.blk
  have E15 := below_ext E10 E10.size n13.ext
  refine lw_nil ?_
  refine rk_seq ?_
  refine rk_reg ?_
  refine lw_v (.pointer (some ⟨b1, 0, none⟩)) (dv_fieldAddr (a := ⟨b1, 0, none⟩) (a' := ⟨b1, 0, none⟩) fo43_0 (T rfl rfl) rfl) ?_
  have H16 := (n13.ext.blk (n8.ext.blk n3.blk))
  refine lw_v (.agg #[.int .u64 (wv3 x), .int .u64 (wv2 x), .int .u64 (wv1 x), .int .u64 (wv0 x)]) (dv_loads (l := [.int .u64 (wv3 x), .int .u64 (wv2 x), .int .u64 (wv1 x), .int .u64 (wv0 x)]) agt24 sz24 (T rfl rfl) H16 rfl) ?_
  refine lw_e (oe_callf (vs := [.agg #[.int .u64 (wv3 x), .int .u64 (wv2 x), .int .u64 (wv1 x), .int .u64 (wv0 x)]]) co16 (ar1 (T rfl rfl)) (toWide_ok (z := x)  ) ?_)
  rintro _ w17 ⟨rfl, e18⟩
  have E19 := below_ext E15 E15.size e18
  refine lw_v (.pointer (some ⟨b11, 0, none⟩)) (dv_fieldAddr (a := ⟨b11, 0, none⟩) (a' := ⟨b11, 0, none⟩) fo46_0 (T rfl rfl) rfl) ?_
  have H20 := (e18.blk n13.blk)
  refine lw_e (oe_store (v := .agg #[.int .u64 (wv3 x), .int .u64 (wv2 x), .int .u64 (wv1 x), .int .u64 (wv0 x)]) (vs := [.int .u64 (wv3 x), .int .u64 (wv2 x), .int .u64 (wv1 x), .int .u64 (wv0 x)]) (l := [.int .u64 (wv3 x), .int .u64 (wv2 x), .int .u64 (wv1 x), .int .u64 (wv0 x), .int .u64 0, .int .u64 0, .int .u64 0, .int .u64 0, .int .u64 0, .int .u64 0, .int .u64 0, .int .u64 0]) (T rfl rfl) (T rfl rfl) sz25 rfl rfl rfl H20 rfl ?_)
  intro w21 s22 H23
  have E24 := below_st E19 N14 s22
  refine lw_nil ?_
  refine rk_seq ?_
  refine rk_reg ?_
  refine lw_v (.pointer (some ⟨b1, 4, none⟩)) (dv_fieldAddr (a := ⟨b1, 0, none⟩) (a' := ⟨b1, 4, none⟩) fo43_1 (T rfl rfl) rfl) ?_
  have H25 := (s22.blk (e18.blk H16) (by omega))
  refine lw_v (.agg #[.int .u64 (wv3 y), .int .u64 (wv2 y), .int .u64 (wv1 y), .int .u64 (wv0 y)]) (dv_loads (l := [.int .u64 (wv3 y), .int .u64 (wv2 y), .int .u64 (wv1 y), .int .u64 (wv0 y)]) agt24 sz24 (T rfl rfl) H25 rfl) ?_
  refine lw_e (oe_callf (vs := [.agg #[.int .u64 (wv3 y), .int .u64 (wv2 y), .int .u64 (wv1 y), .int .u64 (wv0 y)]]) co16 (ar1 (T rfl rfl)) (toWide_ok (z := y)  ) ?_)
  rintro _ w26 ⟨rfl, e27⟩
  have E28 := below_ext E24 E24.size e27
  refine lw_v (.pointer (some ⟨b11, 4, none⟩)) (dv_fieldAddr (a := ⟨b11, 0, none⟩) (a' := ⟨b11, 4, none⟩) fo46_1 (T rfl rfl) rfl) ?_
  have H29 := (e27.blk H23)
  refine lw_e (oe_store (v := .agg #[.int .u64 (wv3 y), .int .u64 (wv2 y), .int .u64 (wv1 y), .int .u64 (wv0 y)]) (vs := [.int .u64 (wv3 y), .int .u64 (wv2 y), .int .u64 (wv1 y), .int .u64 (wv0 y)]) (l := [.int .u64 (wv3 x), .int .u64 (wv2 x), .int .u64 (wv1 x), .int .u64 (wv0 x), .int .u64 (wv3 y), .int .u64 (wv2 y), .int .u64 (wv1 y), .int .u64 (wv0 y), .int .u64 0, .int .u64 0, .int .u64 0, .int .u64 0]) (T rfl rfl) (T rfl rfl) sz25 rfl rfl rfl H29 rfl ?_)
  intro w30 s31 H32
  have E33 := below_st E28 N14 s31
  refine lw_nil ?_
  refine rk_seq ?_
  refine rk_reg ?_
  refine lw_v (.pointer (some ⟨b1, 8, none⟩)) (dv_fieldAddr (a := ⟨b1, 0, none⟩) (a' := ⟨b1, 8, none⟩) fo43_2 (T rfl rfl) rfl) ?_
  have H34 := (s31.blk (e27.blk H25) (by omega))
  refine lw_v (.agg #[.int .u64 (wv3 u), .int .u64 (wv2 u), .int .u64 (wv1 u), .int .u64 (wv0 u)]) (dv_loads (l := [.int .u64 (wv3 u), .int .u64 (wv2 u), .int .u64 (wv1 u), .int .u64 (wv0 u)]) agt24 sz24 (T rfl rfl) H34 rfl) ?_
  refine lw_e (oe_callf (vs := [.agg #[.int .u64 (wv3 u), .int .u64 (wv2 u), .int .u64 (wv1 u), .int .u64 (wv0 u)]]) co16 (ar1 (T rfl rfl)) (toWide_ok (z := u)  ) ?_)
  rintro _ w35 ⟨rfl, e36⟩
  have E37 := below_ext E33 E33.size e36
  refine lw_v (.pointer (some ⟨b11, 8, none⟩)) (dv_fieldAddr (a := ⟨b11, 0, none⟩) (a' := ⟨b11, 8, none⟩) fo46_2 (T rfl rfl) rfl) ?_
  have H38 := (e36.blk H32)
  refine lw_e (oe_store (v := .agg #[.int .u64 (wv3 u), .int .u64 (wv2 u), .int .u64 (wv1 u), .int .u64 (wv0 u)]) (vs := [.int .u64 (wv3 u), .int .u64 (wv2 u), .int .u64 (wv1 u), .int .u64 (wv0 u)]) (l := [.int .u64 (wv3 x), .int .u64 (wv2 x), .int .u64 (wv1 x), .int .u64 (wv0 x), .int .u64 (wv3 y), .int .u64 (wv2 y), .int .u64 (wv1 y), .int .u64 (wv0 y), .int .u64 (wv3 u), .int .u64 (wv2 u), .int .u64 (wv1 u), .int .u64 (wv0 u)]) (T rfl rfl) (T rfl rfl) sz25 rfl rfl rfl H38 rfl ?_)
  intro w39 s40 H41
  have E42 := below_st E37 N14 s40
  refine lw_nil ?_
  refine rk_seq ?_
  refine rk_reg ?_
  refine lw_v (.agg #[.int .u64 (wv3 x), .int .u64 (wv2 x), .int .u64 (wv1 x), .int .u64 (wv0 x), .int .u64 (wv3 y), .int .u64 (wv2 y), .int .u64 (wv1 y), .int .u64 (wv0 y), .int .u64 (wv3 u), .int .u64 (wv2 u), .int .u64 (wv1 u), .int .u64 (wv0 u)]) (dv_loads (l := [.int .u64 (wv3 x), .int .u64 (wv2 x), .int .u64 (wv1 x), .int .u64 (wv0 x), .int .u64 (wv3 y), .int .u64 (wv2 y), .int .u64 (wv1 y), .int .u64 (wv0 y), .int .u64 (wv3 u), .int .u64 (wv2 u), .int .u64 (wv1 u), .int .u64 (wv0 u)]) agt46 sz46 (T rfl rfl) H41 rfl) ?_
  have H43 := (s40.blk (e36.blk (s31.blk (e27.blk (s22.blk (e18.blk (n13.ext.blk n8.blk)) (by omega))) (by omega))) (by omega))
  refine lw_e (oe_store (v := .agg #[.int .u64 (wv3 x), .int .u64 (wv2 x), .int .u64 (wv1 x), .int .u64 (wv0 x), .int .u64 (wv3 y), .int .u64 (wv2 y), .int .u64 (wv1 y), .int .u64 (wv0 y), .int .u64 (wv3 u), .int .u64 (wv2 u), .int .u64 (wv1 u), .int .u64 (wv0 u)]) (vs := [.int .u64 (wv3 x), .int .u64 (wv2 x), .int .u64 (wv1 x), .int .u64 (wv0 x), .int .u64 (wv3 y), .int .u64 (wv2 y), .int .u64 (wv1 y), .int .u64 (wv0 y), .int .u64 (wv3 u), .int .u64 (wv2 u), .int .u64 (wv1 u), .int .u64 (wv0 u)]) (l := [.int .u64 (wv3 x), .int .u64 (wv2 x), .int .u64 (wv1 x), .int .u64 (wv0 x), .int .u64 (wv3 y), .int .u64 (wv2 y), .int .u64 (wv1 y), .int .u64 (wv0 y), .int .u64 (wv3 u), .int .u64 (wv2 u), .int .u64 (wv1 u), .int .u64 (wv0 u)]) (T rfl rfl) (T rfl rfl) sz46 rfl rfl rfl H43 rfl ?_)
  intro w44 s45 H46
  have E47 := below_st E42 N9 s45
  refine lw_nil ?_
  refine rk_ret Try.func31 (v := .agg #[.int .u64 (wv3 x), .int .u64 (wv2 x), .int .u64 (wv1 x), .int .u64 (wv0 x), .int .u64 (wv3 y), .int .u64 (wv2 y), .int .u64 (wv1 y), .int .u64 (wv0 y), .int .u64 (wv3 u), .int .u64 (wv2 u), .int .u64 (wv1 u), .int .u64 (wv0 u)]) (res1 Try.results31 (rv_cells (l := [.int .u64 (wv3 x), .int .u64 (wv2 x), .int .u64 (wv1 x), .int .u64 (wv0 x), .int .u64 (wv3 y), .int .u64 (wv2 y), .int .u64 (wv1 y), .int .u64 (wv0 y), .int .u64 (wv3 u), .int .u64 (wv2 u), .int .u64 (wv1 u), .int .u64 (wv0 u)]) agt46 sz46 rfl rfl H46 rfl)) ⟨_, rfl, ?_⟩
  exact ⟨rfl, E47⟩

set_option maxHeartbeats 1000000 in
theorem l3Small_ok {w : World}  {na : Bool} {Aa : Option Addr} {la ca : Nat} {x : Int} {sx : Nat} (ha : Num 32 115 .u32 w na Aa la ca x sx) {nb : Bool} {Ab : Option Addr} {lb cb : Nat} {y : Int} {sy : Nat} (hb : Num 32 115 .u32 w nb Ab lb cb y sy) {nm : Bool} {Am : Option Addr} {lm cm : Nat} {u : Int} {su : Nat} (hm : Num 32 115 .u32 w nm Am lm cm u su) (hbsx : sx ≤ 100000) (hbsy : sy ≤ 100000) (hbsu : su ≤ 100000)  : Ct Try.prog 70 [.agg #[.bool na, .slice Aa la ca, .bool nb, .slice Ab lb cb, .bool nm, .slice Am lm cm]] w fun v w1 => v = .bool (decide (sm3 x y u)) ∧ Ext w w1 := by
  refine ct_run (n := 22) Try.func70 rfl Try.ntmps70 rfl ?_
  have E0 : Below w.heap.size w w := Below.refl _ _
  have lha := Num.len (by decide) ha
  have lhb := Num.len (by decide) hb
  have lhm := Num.len (by decide) hm
  refine rk_seq ?_
  refine rk_reg ?_
  refine lw_e (oe_box (v := .agg #[.bool na, .slice Aa la ca, .bool nb, .slice Ab lb cb, .bool nm, .slice Am lm cm]) (cs := #[.bool na, .slice Aa la ca, .bool nb, .slice Ab lb cb, .bool nm, .slice Am lm cm]) (T rfl rfl) rfl ?_)
  intro b1 w2 n3
  have N4 : w.heap.size ≤ b1 := n3.eq ▸ E0.size
  have E5 := below_ext E0 E0.size n3.ext
  refine lw_v (.bool false) (dv_assign C) ?_
  refine lw_nil ?_
  refine rk_seq ?_
  refine rk_reg ?_
  refine lw_v (.pointer (some ⟨b1, 0, none⟩)) (dv_fieldAddr (a := ⟨b1, 0, none⟩) (a' := ⟨b1, 0, none⟩) fo92_0 (T rfl rfl) rfl) ?_
  refine lw_v (.pointer (some ⟨b1, 1, none⟩)) (dv_fieldAddr (a := ⟨b1, 0, none⟩) (a' := ⟨b1, 1, none⟩) fo62_1 (T rfl rfl) rfl) ?_
  refine lw_v (.slice Aa la ca) (dv_load1 (b := b1) (o := 1) agt60 (T rfl rfl) n3.blk rfl) ?_
  have h6 := (ha.ext n3.ext)
  refine lw_e (oe_callf (vs := [.slice Aa la ca]) co106 (ar1 (T rfl rfl)) (l1Bits_wc h6.wc (by first | omega | (simp; done) | (simp; omega))) ?_)
  rintro _ w7 ⟨rfl, e8⟩
  have E9 := below_ext E5 E5.size e8
  refine lw_v (.bool (decide (((nbits ((x.natAbs : Int)).toNat : Int)) ≤ 80))) (dv_leq (a := (nbits ((x.natAbs : Int)).toNat : Int)) (b := 80) (T rfl rfl) C) ?_
  refine lw_v (.bool (decide (((nbits ((x.natAbs : Int)).toNat : Int)) ≤ 80))) (dv_move (T rfl rfl)) ?_
  by_cases hb10 : ((nbits ((x.natAbs : Int)).toNat : Int)) ≤ 80
  · -- T
    refine lw_vy (.pointer (some ⟨b1, 2, none⟩)) (d := 8) rfl rfl (congrArg Value.bool (decide_eq_true hb10)) (dv_fieldAddr (a := ⟨b1, 0, none⟩) (a' := ⟨b1, 2, none⟩) fo92_1 (T rfl rfl) rfl) ?_
    refine lw_vy (.pointer (some ⟨b1, 3, none⟩)) (d := 8) rfl rfl (congrArg Value.bool (decide_eq_true hb10)) (dv_fieldAddr (a := ⟨b1, 2, none⟩) (a' := ⟨b1, 3, none⟩) fo62_1 (T rfl rfl) rfl) ?_
    have H11 := (e8.blk n3.blk)
    refine lw_vy (.slice Ab lb cb) (d := 8) rfl rfl (congrArg Value.bool (decide_eq_true hb10)) (dv_load1 (b := b1) (o := 3) agt60 (T rfl rfl) H11 rfl) ?_
    have h12 := ((hb.ext n3.ext).ext e8)
    refine lw_ey (d := 8) rfl rfl (congrArg Value.bool (decide_eq_true hb10)) (oe_callf (vs := [.slice Ab lb cb]) co106 (ar1 (T rfl rfl)) (l1Bits_wc h12.wc (by first | omega | (simp; done) | (simp; omega))) ?_)
    rintro _ w13 ⟨rfl, e14⟩
    have E15 := below_ext E9 E9.size e14
    refine lw_vy (.bool (decide (((nbits ((y.natAbs : Int)).toNat : Int)) ≤ 80))) (d := 8) rfl rfl (congrArg Value.bool (decide_eq_true hb10)) (dv_leq (a := (nbits ((y.natAbs : Int)).toNat : Int)) (b := 80) (T rfl rfl) C) ?_
    refine lw_v (.bool (decide (((nbits ((y.natAbs : Int)).toNat : Int)) ≤ 80))) (dv_pick_t (T rfl (congrArg Value.bool (decide_eq_true hb10))) (T rfl rfl)) ?_
    refine lw_v (.bool (decide (((nbits ((y.natAbs : Int)).toNat : Int)) ≤ 80))) (dv_move (T rfl rfl)) ?_
    by_cases hb16 : ((nbits ((y.natAbs : Int)).toNat : Int)) ≤ 80
    · -- TT
      refine lw_vy (.pointer (some ⟨b1, 4, none⟩)) (d := 15) rfl rfl (congrArg Value.bool (decide_eq_true hb16)) (dv_fieldAddr (a := ⟨b1, 0, none⟩) (a' := ⟨b1, 4, none⟩) fo92_2 (T rfl rfl) rfl) ?_
      refine lw_vy (.pointer (some ⟨b1, 5, none⟩)) (d := 15) rfl rfl (congrArg Value.bool (decide_eq_true hb16)) (dv_fieldAddr (a := ⟨b1, 4, none⟩) (a' := ⟨b1, 5, none⟩) fo62_1 (T rfl rfl) rfl) ?_
      have H17 := (e14.blk H11)
      refine lw_vy (.slice Am lm cm) (d := 15) rfl rfl (congrArg Value.bool (decide_eq_true hb16)) (dv_load1 (b := b1) (o := 5) agt60 (T rfl rfl) H17 rfl) ?_
      have h18 := (((hm.ext n3.ext).ext e8).ext e14)
      refine lw_ey (d := 15) rfl rfl (congrArg Value.bool (decide_eq_true hb16)) (oe_callf (vs := [.slice Am lm cm]) co106 (ar1 (T rfl rfl)) (l1Bits_wc h18.wc (by first | omega | (simp; done) | (simp; omega))) ?_)
      rintro _ w19 ⟨rfl, e20⟩
      have E21 := below_ext E15 E15.size e20
      refine lw_vy (.bool (decide (((nbits ((u.natAbs : Int)).toNat : Int)) ≤ 80))) (d := 15) rfl rfl (congrArg Value.bool (decide_eq_true hb16)) (dv_leq (a := (nbits ((u.natAbs : Int)).toNat : Int)) (b := 80) (T rfl rfl) C) ?_
      refine lw_v (.bool (decide (((nbits ((u.natAbs : Int)).toNat : Int)) ≤ 80))) (dv_pick_t (T rfl (congrArg Value.bool (decide_eq_true hb16))) (T rfl rfl)) ?_
      refine lw_v (.bool (decide (((nbits ((u.natAbs : Int)).toNat : Int)) ≤ 80))) (dv_assign (T rfl rfl)) ?_
      refine lw_nil ?_
      refine rk_ret Try.func70 (v := .bool (decide (((nbits ((u.natAbs : Int)).toNat : Int)) ≤ 80))) (res1 Try.results70 (rv_tmp rfl rfl)) ⟨_, rfl, ?_⟩
      exact ⟨(vb (by unfold sm3; omega)), E21⟩
    · -- TF
      refine lw_no (d := 15) rfl rfl (congrArg Value.bool (decide_eq_false hb16)) ?_
      refine lw_no (d := 15) rfl rfl (congrArg Value.bool (decide_eq_false hb16)) ?_
      refine lw_no (d := 15) rfl rfl (congrArg Value.bool (decide_eq_false hb16)) ?_
      refine lw_no (d := 15) rfl rfl (congrArg Value.bool (decide_eq_false hb16)) ?_
      refine lw_no (d := 15) rfl rfl (congrArg Value.bool (decide_eq_false hb16)) ?_
      refine lw_v (.bool false) (dv_pick_f (T rfl (congrArg Value.bool (decide_eq_false hb16))) C) ?_
      refine lw_v (.bool false) (dv_assign (T rfl rfl)) ?_
      refine lw_nil ?_
      refine rk_ret Try.func70 (v := .bool false) (res1 Try.results70 (rv_tmp rfl rfl)) ⟨_, rfl, ?_⟩
      exact ⟨(vf (by unfold sm3; omega)), E15⟩
  · -- F
    refine lw_no (d := 8) rfl rfl (congrArg Value.bool (decide_eq_false hb10)) ?_
    refine lw_no (d := 8) rfl rfl (congrArg Value.bool (decide_eq_false hb10)) ?_
    refine lw_no (d := 8) rfl rfl (congrArg Value.bool (decide_eq_false hb10)) ?_
    refine lw_no (d := 8) rfl rfl (congrArg Value.bool (decide_eq_false hb10)) ?_
    refine lw_no (d := 8) rfl rfl (congrArg Value.bool (decide_eq_false hb10)) ?_
    refine lw_v (.bool false) (dv_pick_f (T rfl (congrArg Value.bool (decide_eq_false hb10))) C) ?_
    refine lw_v (.bool false) (dv_move (T rfl rfl)) ?_
    refine lw_no (d := 15) rfl rfl (rfl) ?_
    refine lw_no (d := 15) rfl rfl (rfl) ?_
    refine lw_no (d := 15) rfl rfl (rfl) ?_
    refine lw_no (d := 15) rfl rfl (rfl) ?_
    refine lw_no (d := 15) rfl rfl (rfl) ?_
    refine lw_v (.bool false) (dv_pick_f (T rfl rfl) C) ?_
    refine lw_v (.bool false) (dv_assign (T rfl rfl)) ?_
    refine lw_nil ?_
    refine rk_ret Try.func70 (v := .bool false) (res1 Try.results70 (rv_tmp rfl rfl)) ⟨_, rfl, ?_⟩
    exact ⟨(vf (by unfold sm3; omega)), E9⟩

end Go.Proofs.Ytpnjkjahfklfnaa.W
