/- Wk36: walks, written by a program of this session. -/
import Derived.Test.YtpnjkjahfklfnaaWk19
import Derived.Test.YtpnjkjahfklfnaaMa17
import Derived.Test.YtpnjkjahfklfnaaMa18
set_option linter.unusedVariables false
set_option linter.unusedSimpArgs false
namespace Go.Proofs.Ytpnjkjahfklfnaa.W
open Go Go.RowKit Go.Proofs.Ytpnjkjahfklfnaa.Fw
attribute [local irreducible] RunK LW AW DV OE Ct
theorem agt24 : aggB Try.prog 24 = some true := by kernel_rfl
theorem agt46 : aggB Try.prog 46 = some true := by kernel_rfl
theorem agt5 : aggB Try.prog 5 = some false := by kernel_rfl
theorem agt92 : aggB Try.prog 92 = some true := by kernel_rfl
theorem agt97 : aggB Try.prog 97 = some true := by kernel_rfl
theorem co120 : callOk Try.prog 120 = true := by kernel_rfl
theorem co16 : callOk Try.prog 16 = true := by kernel_rfl
theorem co46 : callOk Try.prog 46 = true := by kernel_rfl
theorem co47 : callOk Try.prog 47 = true := by kernel_rfl
theorem co59 : callOk Try.prog 59 = true := by kernel_rfl
theorem co68 : callOk Try.prog 68 = true := by kernel_rfl
theorem co70 : callOk Try.prog 70 = true := by kernel_rfl
theorem co71 : callOk Try.prog 71 = true := by kernel_rfl
theorem co72 : callOk Try.prog 72 = true := by kernel_rfl
theorem co75 : callOk Try.prog 75 = true := by kernel_rfl
theorem co76 : callOk Try.prog 76 = true := by kernel_rfl
theorem fo43_0 : fieldOffB Try.prog 43 0 = some 0 := by kernel_rfl
theorem fo43_1 : fieldOffB Try.prog 43 1 = some 4 := by kernel_rfl
theorem fo43_2 : fieldOffB Try.prog 43 2 = some 8 := by kernel_rfl
theorem fo46_0 : fieldOffB Try.prog 46 0 = some 0 := by kernel_rfl
theorem fo46_1 : fieldOffB Try.prog 46 1 = some 4 := by kernel_rfl
theorem fo46_2 : fieldOffB Try.prog 46 2 = some 8 := by kernel_rfl
theorem fo92_0 : fieldOffB Try.prog 92 0 = some 0 := by kernel_rfl
theorem fo92_1 : fieldOffB Try.prog 92 1 = some 2 := by kernel_rfl
theorem fo92_2 : fieldOffB Try.prog 92 2 = some 4 := by kernel_rfl
theorem fo97_0 : fieldOffB Try.prog 97 0 = some 0 := by kernel_rfl
theorem fo97_1 : fieldOffB Try.prog 97 1 = some 2 := by kernel_rfl
theorem fo97_2 : fieldOffB Try.prog 97 2 = some 4 := by kernel_rfl
theorem in5 : (Try.prog.info? 5).map (fun i => (i.zero, i.size, i.bytes)) = some (some (.int .u8 0), 1, 1) := by kernel_rfl
theorem pl92 : placesB Try.prog 92 = some [(0, 2), (2, 2), (4, 2)] := by kernel_rfl
theorem pl97 : placesB Try.prog 97 = some [(0, 2), (2, 2), (4, 2)] := by kernel_rfl
theorem sz24 : sizeB Try.prog 24 = some 4 := by kernel_rfl
theorem sz46 : sizeB Try.prog 46 = some 12 := by kernel_rfl
theorem sz5 : sizeB Try.prog 5 = some 1 := by kernel_rfl
theorem sz92 : sizeB Try.prog 92 = some 6 := by kernel_rfl
theorem sz97 : sizeB Try.prog 97 = some 6 := by kernel_rfl
theorem ui5 : Try.prog.underlying 5 = some (.int .u8) := by kernel_rfl
theorem us126 : Try.prog.underlying 126 = some (.slice 5) := by kernel_rfl
theorem ut9 : Try.prog.underlying 9 = some .string := by kernel_rfl
theorem zc5 : zcB Try.prog 5 = some [.int .u8 0] := by kernel_rfl
theorem zc92 : zcB Try.prog 92 = some [.bool false, .slice none 0 0, .bool false, .slice none 0 0, .bool false, .slice none 0 0] := by kernel_rfl
theorem zc97 : zcB Try.prog 97 = some [.bool false, .slice none 0 0, .bool false, .slice none 0 0, .bool false, .slice none 0 0] := by kernel_rfl
theorem ze46 : zeroB Try.prog 46 = some #[.int .u64 0, .int .u64 0, .int .u64 0, .int .u64 0, .int .u64 0, .int .u64 0, .int .u64 0, .int .u64 0, .int .u64 0, .int .u64 0, .int .u64 0, .int .u64 0] := by kernel_rfl
theorem ze92 : zeroB Try.prog 92 = some #[.bool false, .slice none 0 0, .bool false, .slice none 0 0, .bool false, .slice none 0 0] := by kernel_rfl
theorem ze97 : zeroB Try.prog 97 = some #[.bool false, .slice none 0 0, .bool false, .slice none 0 0, .bool false, .slice none 0 0] := by kernel_rfl
set_option maxHeartbeats 1000000 in
theorem toPoint_ok {w : World} {x y u : Int}   : Ct Try.prog 31 [.agg #[.int .u64 (wv3 x), .int .u64 (wv2 x), .int .u64 (wv1 x), .int .u64 (wv0 x), .int .u64 (wv3 y), .int .u64 (wv2 y), .int .u64 (wv1 y), .int .u64 (wv0 y), .int .u64 (wv3 u), .int .u64 (wv2 u), .int .u64 (wv1 u), .int .u64 (wv0 u)]] w fun v w1 => v = .agg #[.int .u64 (wv3 x), .int .u64 (wv2 x), .int .u64 (wv1 x), .int .u64 (wv0 x), .int .u64 (wv3 y), .int .u64 (wv2 y), .int .u64 (wv1 y), .int .u64 (wv0 y), .int .u64 (wv3 u), .int .u64 (wv2 u), .int .u64 (wv1 u), .int .u64 (wv0 u)] ∧ Ext w w1 := by
  refine ct_run (n := 17) Try.func31 rfl Try.ntmps31 rfl ?_
  have E0 : Below w.heap.size w w := Below.refl _ _
  refine rk_seq ?_
  refine rk_reg ?_
  refine lw_e (oe_box (v := .agg #[.int .u64 (wv3 x), .int .u64 (wv2 x), .int .u64 (wv1 x), .int .u64 (wv0 x), .int .u64 (wv3 y), .int .u64 (wv2 y), .int .u64 (wv1 y), .int .u64 (wv0 y), .int .u64 (wv3 u), .int .u64 (wv2 u), .int .u64 (wv1 u), .int .u64 (wv0 u)]) (cs := #[.int .u64 (wv3 x), .int .u64 (wv2 x), .int .u64 (wv1 x), .int .u64 (wv0 x), .int .u64 (wv3 y), .int .u64 (wv2 y), .int .u64 (wv1 y), .int .u64 (wv0 y), .int .u64 (wv3 u), .int .u64 (wv2 u), .int .u64 (wv1 u), .int .u64 (wv0 u)]) (T rfl rfl) rfl ?_)
  intro b1 w2 n3
  have N4 : w.heap.size ≤ b1 := n3.eq ▸ E0.size
  have E5 := below_ext E0 E0.size n3.ext
  refine lw_e (oe_alloc ze46 ?_)
  intro b6 w7 n8
  have N9 : w.heap.size ≤ b6 := n8.eq ▸ E5.size
  have : b1 < b6 := n8.eq ▸ lt_of_blk n3.blk
  have E10 := below_ext E5 E5.size n8.ext
  refine lw_nil ?_
  refine rk_seq ?_
  refine rk_reg ?_
  refine lw_e (oe_alloc ze46 ?_)
  intro b11 w12 n13
  have N14 : w.heap.size ≤ b11 := n13.eq ▸ E10.size
  have : b6 < b11 := n13.eq ▸ lt_of_blk n8.blk
  have E15 := below_ext E10 E10.size n13.ext
  refine lw_nil ?_
  refine rk_seq ?_
  refine rk_reg ?_
  refine lw_v (.pointer (some ⟨b1, 0, none⟩)) (dv_fieldAddr (a := ⟨b1, 0, none⟩) (a' := ⟨b1, 0, none⟩) fo43_0 (T rfl rfl) rfl) ?_
  have H16 := (n13.ext.blk (n8.ext.blk n3.blk))
  refine lw_v (.agg #[.int .u64 (wv3 x), .int .u64 (wv2 x), .int .u64 (wv1 x), .int .u64 (wv0 x)]) (dv_loads (l := [.int .u64 (wv3 x), .int .u64 (wv2 x), .int .u64 (wv1 x), .int .u64 (wv0 x)]) agt24 sz24 (T rfl rfl) H16 rfl) ?_
  refine lw_e (oe_callf (vs := [.agg #[.int .u64 (wv3 x), .int .u64 (wv2 x), .int .u64 (wv1 x), .int .u64 (wv0 x)]]) co16 (ar1 (T rfl rfl)) (toWide_ok (z := x)  ) ?_)
  rintro _ w17 ⟨rfl, e18⟩
  have E19 := below_ext E15 E15.size e18
  refine lw_v (.pointer (some ⟨b11, 0, none⟩)) (dv_fieldAddr (a := ⟨b11, 0, none⟩) (a' := ⟨b11, 0, none⟩) fo46_0 (T rfl rfl) rfl) ?_
  have H20 := (e18.blk n13.blk)
  refine lw_e (oe_store (v := .agg #[.int .u64 (wv3 x), .int .u64 (wv2 x), .int .u64 (wv1 x), .int .u64 (wv0 x)]) (vs := [.int .u64 (wv3 x), .int .u64 (wv2 x), .int .u64 (wv1 x), .int .u64 (wv0 x)]) (l := [.int .u64 (wv3 x), .int .u64 (wv2 x), .int .u64 (wv1 x), .int .u64 (wv0 x), .int .u64 0, .int .u64 0, .int .u64 0, .int .u64 0, .int .u64 0, .int .u64 0, .int .u64 0, .int .u64 0]) (T rfl rfl) (T rfl rfl) sz25 rfl rfl rfl H20 rfl ?_)
  intro w21 s22 H23
  have E24 := below_st E19 N14 s22
  refine lw_nil ?_
  refine rk_seq ?_
  refine rk_reg ?_
  refine lw_v (.pointer (some ⟨b1, 4, none⟩)) (dv_fieldAddr (a := ⟨b1, 0, none⟩) (a' := ⟨b1, 4, none⟩) fo43_1 (T rfl rfl) rfl) ?_
  have H25 := (s22.blk (e18.blk H16) (by omega))
  refine lw_v (.agg #[.int .u64 (wv3 y), .int .u64 (wv2 y), .int .u64 (wv1 y), .int .u64 (wv0 y)]) (dv_loads (l := [.int .u64 (wv3 y), .int .u64 (wv2 y), .int .u64 (wv1 y), .int .u64 (wv0 y)]) agt24 sz24 (T rfl rfl) H25 rfl) ?_
  refine lw_e (oe_callf (vs := [.agg #[.int .u64 (wv3 y), .int .u64 (wv2 y), .int .u64 (wv1 y), .int .u64 (wv0 y)]]) co16 (ar1 (T rfl rfl)) (toWide_ok (z := y)  ) ?_)
  rintro _ w26 ⟨rfl, e27⟩
  have E28 := below_ext E24 E24.size e27
  refine lw_v (.pointer (some ⟨b11, 4, none⟩)) (dv_fieldAddr (a := ⟨b11, 0, none⟩) (a' := ⟨b11, 4, none⟩) fo46_1 (T rfl rfl) rfl) ?_
  have H29 := (e27.blk H23)
  refine lw_e (oe_store (v := .agg #[.int .u64 (wv3 y), .int .u64 (wv2 y), .int .u64 (wv1 y), .int .u64 (wv0 y)]) (vs := [.int .u64 (wv3 y), .int .u64 (wv2 y), .int .u64 (wv1 y), .int .u64 (wv0 y)]) (l := [.int .u64 (wv3 x), .int .u64 (wv2 x), .int .u64 (wv1 x), .int .u64 (wv0 x), .int .u64 (wv3 y), .int .u64 (wv2 y), .int .u64 (wv1 y), .int .u64 (wv0 y), .int .u64 0, .int .u64 0, .int .u64 0, .int .u64 0]) (T rfl rfl) (T rfl rfl) sz25 rfl rfl rfl H29 rfl ?_)
  intro w30 s31 H32
  have E33 := below_st E28 N14 s31
  refine lw_nil ?_
  refine rk_seq ?_
  refine rk_reg ?_
  refine lw_v (.pointer (some ⟨b1, 8, none⟩)) (dv_fieldAddr (a := ⟨b1, 0, none⟩) (a' := ⟨b1, 8, none⟩) fo43_2 (T rfl rfl) rfl) ?_
  have H34 := (s31.blk (e27.blk H25) (by omega))
  refine lw_v (.agg #[.int .u64 (wv3 u), .int .u64 (wv2 u), .int .u64 (wv1 u), .int .u64 (wv0 u)]) (dv_loads (l := [.int .u64 (wv3 u), .int .u64 (wv2 u), .int .u64 (wv1 u), .int .u64 (wv0 u)]) agt24 sz24 (T rfl rfl) H34 rfl) ?_
  refine lw_e (oe_callf (vs := [.agg #[.int .u64 (wv3 u), .int .u64 (wv2 u), .int .u64 (wv1 u), .int .u64 (wv0 u)]]) co16 (ar1 (T rfl rfl)) (toWide_ok (z := u)  ) ?_)
  rintro _ w35 ⟨rfl, e36⟩
  have E37 := below_ext E33 E33.size e36
  refine lw_v (.pointer (some ⟨b11, 8, none⟩)) (dv_fieldAddr (a := ⟨b11, 0, none⟩) (a' := ⟨b11, 8, none⟩) fo46_2 (T rfl rfl) rfl) ?_
  have H38 := (e36.blk H32)
  refine lw_e (oe_store (v := .agg #[.int .u64 (wv3 u), .int .u64 (wv2 u), .int .u64 (wv1 u), .int .u64 (wv0 u)]) (vs := [.int .u64 (wv3 u), .int .u64 (wv2 u), .int .u64 (wv1 u), .int .u64 (wv0 u)]) (l := [.int .u64 (wv3 x), .int .u64 (wv2 x), .int .u64 (wv1 x), .int .u64 (wv0 x), .int .u64 (wv3 y), .int .u64 (wv2 y), .int .u64 (wv1 y), .int .u64 (wv0 y), .int .u64 (wv3 u), .int .u64 (wv2 u), .int .u64 (wv1 u), .int .u64 (wv0 u)]) (T rfl rfl) (T rfl rfl) sz25 rfl rfl rfl H38 rfl ?_)
  intro w39 s40 H41
  have E42 := below_st E37 N14 s40
  refine lw_nil ?_
  refine rk_seq ?_
  refine rk_reg ?_
  refine lw_v (.agg #[.int .u64 (wv3 x), .int .u64 (wv2 x), .int .u64 (wv1 x), .int .u64 (wv0 x), .int .u64 (wv3 y), .int .u64 (wv2 y), .int .u64 (wv1 y), .int .u64 (wv0 y), .int .u64 (wv3 u), .int .u64 (wv2 u), .int .u64 (wv1 u), .int .u64 (wv0 u)]) (dv_loads (l := [.int .u64 (wv3 x), .int .u64 (wv2 x), .int .u64 (wv1 x), .int .u64 (wv0 x), .int .u64 (wv3 y), .int .u64 (wv2 y), .int .u64 (wv1 y), .int .u64 (wv0 y), .int .u64 (wv3 u), .int .u64 (wv2 u), .int .u64 (wv1 u), .int .u64 (wv0 u)]) agt46 sz46 (T rfl rfl) H41 rfl) ?_
  have H43 := (s40.blk (e36.blk (s31.blk (e27.blk (s22.blk (e18.blk (n13.ext.blk n8.blk)) (by omega))) (by omega))) (by omega))
  refine lw_e (oe_store (v := .agg #[.int .u64 (wv3 x), .int .u64 (wv2 x), .int .u64 (wv1 x), .int .u64 (wv0 x), .int .u64 (wv3 y), .int .u64 (wv2 y), .int .u64 (wv1 y), .int .u64 (wv0 y), .int .u64 (wv3 u), .int .u64 (wv2 u), .int .u64 (wv1 u), .int .u64 (wv0 u)]) (vs := [.int .u64 (wv3 x), .int .u64 (wv2 x), .int .u64 (wv1 x), .int .u64 (wv0 x), .int .u64 (wv3 y), .int .u64 (wv2 y), .int .u64 (wv1 y), .int .u64 (wv0 y), .int .u64 (wv3 u), .int .u64 (wv2 u), .int .u64 (wv1 u), .int .u64 (wv0 u)]) (l := [.int .u64 (wv3 x), .int .u64 (wv2 x), .int .u64 (wv1 x), .int .u64 (wv0 x), .int .u64 (wv3 y), .int .u64 (wv2 y), .int .u64 (wv1 y), .int .u64 (wv0 y), .int .u64 (wv3 u), .int .u64 (wv2 u), .int .u64 (wv1 u), .int .u64 (wv0 u)]) (T rfl rfl) (T rfl rfl) sz46 rfl rfl rfl H43 rfl ?_)
  intro w44 s45 H46
  have E47 := below_st E42 N9 s45
  refine lw_nil ?_
  refine rk_ret Try.func31 (v := .agg #[.int .u64 (wv3 x), .int .u64 (wv2 x), .int .u64 (wv1 x), .int .u64 (wv0 x), .int .u64 (wv3 y), .int .u64 (wv2 y), .int .u64 (wv1 y), .int .u64 (wv0 y), .int .u64 (wv3 u), .int .u64 (wv2 u), .int .u64 (wv1 u), .int .u64 (wv0 u)]) (res1 Try.results31 (rv_cells (l := [.int .u64 (wv3 x), .int .u64 (wv2 x), .int .u64 (wv1 x), .int .u64 (wv0 x), .int .u64 (wv3 y), .int .u64 (wv2 y), .int .u64 (wv1 y), .int .u64 (wv0 y), .int .u64 (wv3 u), .int .u64 (wv2 u), .int .u64 (wv1 u), .int .u64 (wv0 u)]) agt46 sz46 rfl rfl H46 rfl)) ⟨_, rfl, ?_⟩
  exact ⟨rfl, E47⟩

set_option maxHeartbeats 1000000 in
theorem l3Small_ok {w : World}  {na : Bool} {Aa : Option Addr} {la ca : Nat} {x : Int} {sx : Nat} (ha : Num 32 115 .u32 w na Aa la ca x sx) {nb : Bool} {Ab : Option Addr} {lb cb : Nat} {y : Int} {sy : Nat} (hb : Num 32 115 .u32 w nb Ab lb cb y sy) {nm : Bool} {Am : Option Addr} {lm cm : Nat} {u : Int} {su : Nat} (hm : Num 32 115 .u32 w nm Am lm cm u su) (hbsx : sx ≤ 100000) (hbsy : sy ≤ 100000) (hbsu : su ≤ 100000)  : Ct Try.prog 70 [.agg #[.bool na, .slice Aa la ca, .bool nb, .slice Ab lb cb, .bool nm, .slice Am lm cm]] w fun v w1 => v = .bool (decide (sm3 x y u)) ∧ Ext w w1 := by
  refine ct_run (n := 22) Try.func70 rfl Try.ntmps70 rfl ?_
  have E0 : Below w.heap.size w w := Below.refl _ _
  have lha := Num.len (by decide) ha
  have lhb := Num.len (by decide) hb
  have lhm := Num.len (by decide) hm
  refine rk_seq ?_
  refine rk_reg ?_
  refine lw_e (oe_box (v := .agg #[.bool na, .slice Aa la ca, .bool nb, .slice Ab lb cb, .bool nm, .slice Am lm cm]) (cs := #[.bool na, .slice Aa la ca, .bool nb, .slice Ab lb cb, .bool nm, .slice Am lm cm]) (T rfl rfl) rfl ?_)
  intro b1 w2 n3
  have N4 : w.heap.size ≤ b1 := n3.eq ▸ E0.size
  have E5 := below_ext E0 E0.size n3.ext
  refine lw_v (.bool false) (dv_assign C) ?_
  refine lw_nil ?_
  refine rk_seq ?_
  refine rk_reg ?_
  refine lw_v (.pointer (some ⟨b1, 0, none⟩)) (dv_fieldAddr (a := ⟨b1, 0, none⟩) (a' := ⟨b1, 0, none⟩) fo92_0 (T rfl rfl) rfl) ?_
  refine lw_v (.pointer (some ⟨b1, 1, none⟩)) (dv_fieldAddr (a := ⟨b1, 0, none⟩) (a' := ⟨b1, 1, none⟩) fo62_1 (T rfl rfl) rfl) ?_
  refine lw_v (.slice Aa la ca) (dv_load1 (b := b1) (o := 1) agt60 (T rfl rfl) n3.blk rfl) ?_
  have h6 := (ha.ext n3.ext)
  refine lw_e (oe_callf (vs := [.slice Aa la ca]) co106 (ar1 (T rfl rfl)) (l1Bits_wc h6.wc (by first | omega | (simp; done) | (simp; omega))) ?_)
  rintro _ w7 ⟨rfl, e8⟩
  have E9 := below_ext E5 E5.size e8
  refine lw_v (.bool (decide (((nbits ((x.natAbs : Int)).toNat : Int)) ≤ 80))) (dv_leq (a := (nbits ((x.natAbs : Int)).toNat : Int)) (b := 80) (T rfl rfl) C) ?_
  refine lw_v (.bool (decide (((nbits ((x.natAbs : Int)).toNat : Int)) ≤ 80))) (dv_move (T rfl rfl)) ?_
  by_cases hb10 : ((nbits ((x.natAbs : Int)).toNat : Int)) ≤ 80
  · -- T
    refine lw_vy (.pointer (some ⟨b1, 2, none⟩)) (d := 8) rfl rfl (congrArg Value.bool (decide_eq_true hb10)) (dv_fieldAddr (a := ⟨b1, 0, none⟩) (a' := ⟨b1, 2, none⟩) fo92_1 (T rfl rfl) rfl) ?_
    refine lw_vy (.pointer (some ⟨b1, 3, none⟩)) (d := 8) rfl rfl (congrArg Value.bool (decide_eq_true hb10)) (dv_fieldAddr (a := ⟨b1, 2, none⟩) (a' := ⟨b1, 3, none⟩) fo62_1 (T rfl rfl) rfl) ?_
    have H11 := (e8.blk n3.blk)
    refine lw_vy (.slice Ab lb cb) (d := 8) rfl rfl (congrArg Value.bool (decide_eq_true hb10)) (dv_load1 (b := b1) (o := 3) agt60 (T rfl rfl) H11 rfl) ?_
    have h12 := ((hb.ext n3.ext).ext e8)
    refine lw_ey (d := 8) rfl rfl (congrArg Value.bool (decide_eq_true hb10)) (oe_callf (vs := [.slice Ab lb cb]) co106 (ar1 (T rfl rfl)) (l1Bits_wc h12.wc (by first | omega | (simp; done) | (simp; omega))) ?_)
    rintro _ w13 ⟨rfl, e14⟩
    have E15 := below_ext E9 E9.size e14
    refine lw_vy (.bool (decide (((nbits ((y.natAbs : Int)).toNat : Int)) ≤ 80))) (d := 8) rfl rfl (congrArg Value.bool (decide_eq_true hb10)) (dv_leq (a := (nbits ((y.natAbs : Int)).toNat : Int)) (b := 80) (T rfl rfl) C) ?_
    refine lw_v (.bool (decide (((nbits ((y.natAbs : Int)).toNat : Int)) ≤ 80))) (dv_pick_t (T rfl (congrArg Value.bool (decide_eq_true hb10))) (T rfl rfl)) ?_
    refine lw_v (.bool (decide (((nbits ((y.natAbs : Int)).toNat : Int)) ≤ 80))) (dv_move (T rfl rfl)) ?_
    by_cases hb16 : ((nbits ((y.natAbs : Int)).toNat : Int)) ≤ 80
    · -- TT
      refine lw_vy (.pointer (some ⟨b1, 4, none⟩)) (d := 15) rfl rfl (congrArg Value.bool (decide_eq_true hb16)) (dv_fieldAddr (a := ⟨b1, 0, none⟩) (a' := ⟨b1, 4, none⟩) fo92_2 (T rfl rfl) rfl) ?_
      refine lw_vy (.pointer (some ⟨b1, 5, none⟩)) (d := 15) rfl rfl (congrArg Value.bool (decide_eq_true hb16)) (dv_fieldAddr (a := ⟨b1, 4, none⟩) (a' := ⟨b1, 5, none⟩) fo62_1 (T rfl rfl) rfl) ?_
      have H17 := (e14.blk H11)
      refine lw_vy (.slice Am lm cm) (d := 15) rfl rfl (congrArg Value.bool (decide_eq_true hb16)) (dv_load1 (b := b1) (o := 5) agt60 (T rfl rfl) H17 rfl) ?_
      have h18 := (((hm.ext n3.ext).ext e8).ext e14)
      refine lw_ey (d := 15) rfl rfl (congrArg Value.bool (decide_eq_true hb16)) (oe_callf (vs := [.slice Am lm cm]) co106 (ar1 (T rfl rfl)) (l1Bits_wc h18.wc (by first | omega | (simp; done) | (simp; omega))) ?_)
      rintro _ w19 ⟨rfl, e20⟩
      have E21 := below_ext E15 E15.size e20
      refine lw_vy (.bool (decide (((nbits ((u.natAbs : Int)).toNat : Int)) ≤ 80))) (d := 15) rfl rfl (congrArg Value.bool (decide_eq_true hb16)) (dv_leq (a := (nbits ((u.natAbs : Int)).toNat : Int)) (b := 80) (T rfl rfl) C) ?_
      refine lw_v (.bool (decide (((nbits ((u.natAbs : Int)).toNat : Int)) ≤ 80))) (dv_pick_t (T rfl (congrArg Value.bool (decide_eq_true hb16))) (T rfl rfl)) ?_
      refine lw_v (.bool (decide (((nbits ((u.natAbs : Int)).toNat : Int)) ≤ 80))) (dv_assign (T rfl rfl)) ?_
      refine lw_nil ?_
      refine rk_ret Try.func70 (v := .bool (decide (((nbits ((u.natAbs : Int)).toNat : Int)) ≤ 80))) (res1 Try.results70 (rv_tmp rfl rfl)) ⟨_, rfl, ?_⟩
      exact ⟨(vb (by unfold sm3; omega)), E21⟩
    · -- TF
      refine lw_no (d := 15) rfl rfl (congrArg Value.bool (decide_eq_false hb16)) ?_
      refine lw_no (d := 15) rfl rfl (congrArg Value.bool (decide_eq_false hb16)) ?_
      refine lw_no (d := 15) rfl rfl (congrArg Value.bool (decide_eq_false hb16)) ?_
      refine lw_no (d := 15) rfl rfl (congrArg Value.bool (decide_eq_false hb16)) ?_
      refine lw_no (d := 15) rfl rfl (congrArg Value.bool (decide_eq_false hb16)) ?_
      refine lw_v (.bool false) (dv_pick_f (T rfl (congrArg Value.bool (decide_eq_false hb16))) C) ?_
      refine lw_v (.bool false) (dv_assign (T rfl rfl)) ?_
      refine lw_nil ?_
      refine rk_ret Try.func70 (v := .bool false) (res1 Try.results70 (rv_tmp rfl rfl)) ⟨_, rfl, ?_⟩
      exact ⟨(vf (by unfold sm3; omega)), E15⟩
  · -- F
    refine lw_no (d := 8) rfl rfl (congrArg Value.bool (decide_eq_false hb10)) ?_
    refine lw_no (d := 8) rfl rfl (congrArg Value.bool (decide_eq_false hb10)) ?_
    refine lw_no (d := 8) rfl rfl (congrArg Value.bool (decide_eq_false hb10)) ?_
    refine lw_no (d := 8) rfl rfl (congrArg Value.bool (decide_eq_false hb10)) ?_
    refine lw_no (d := 8) rfl rfl (congrArg Value.bool (decide_eq_false hb10)) ?_
    refine lw_v (.bool false) (dv_pick_f (T rfl (congrArg Value.bool (decide_eq_false hb10))) C) ?_
    refine lw_v (.bool false) (dv_move (T rfl rfl)) ?_
    refine lw_no (d := 15) rfl rfl (rfl) ?_
    refine lw_no (d := 15) rfl rfl (rfl) ?_
    refine lw_no (d := 15) rfl rfl (rfl) ?_
    refine lw_no (d := 15) rfl rfl (rfl) ?_
    refine lw_no (d := 15) rfl rfl (rfl) ?_
    refine lw_v (.bool false) (dv_pick_f (T rfl rfl) C) ?_
    refine lw_v (.bool false) (dv_assign (T rfl rfl)) ?_
    refine lw_nil ?_
    refine rk_ret Try.func70 (v := .bool false) (res1 Try.results70 (rv_tmp rfl rfl)) ⟨_, rfl, ?_⟩
    exact ⟨(vf (by unfold sm3; omega)), E9⟩

set_option maxHeartbeats 1000000 in
theorem spot_ok {w : World}  {x y u : Int} (fx_ : fits x) (fy_ : fits y) (fu_ : fits u)   : Ct Try.prog 72 [.agg #[.int .u64 (wv3 x), .int .u64 (wv2 x), .int .u64 (wv1 x), .int .u64 (wv0 x), .int .u64 (wv3 y), .int .u64 (wv2 y), .int .u64 (wv1 y), .int .u64 (wv0 y), .int .u64 (wv3 u), .int .u64 (wv2 u), .int .u64 (wv1 u), .int .u64 (wv0 u)]] w fun v w1 => ∃ nr0_ A0_ l0_ c0_ nr1_ A1_ l1_ c1_ nr2_ A2_ l2_ c2_, v = .agg #[.bool nr0_, .slice A0_ l0_ c0_, .bool nr1_, .slice A1_ l1_ c1_, .bool nr2_, .slice A2_ l2_ c2_] ∧ Ext w w1 ∧ Num 64 22 .u64 w1 nr0_ A0_ l0_ c0_ (x) (256) ∧ Num 64 22 .u64 w1 nr1_ A1_ l1_ c1_ (y) (256) ∧ Num 64 22 .u64 w1 nr2_ A2_ l2_ c2_ (u) (256) := by
  refine ct_run (n := 13) Try.func72 rfl Try.ntmps72 rfl ?_
  have E0 : Below w.heap.size w w := Below.refl _ _
  refine rk_seq ?_
  refine rk_reg ?_
  refine lw_e (oe_box (v := .agg #[.int .u64 (wv3 x), .int .u64 (wv2 x), .int .u64 (wv1 x), .int .u64 (wv0 x), .int .u64 (wv3 y), .int .u64 (wv2 y), .int .u64 (wv1 y), .int .u64 (wv0 y), .int .u64 (wv3 u), .int .u64 (wv2 u), .int .u64 (wv1 u), .int .u64 (wv0 u)]) (cs := #[.int .u64 (wv3 x), .int .u64 (wv2 x), .int .u64 (wv1 x), .int .u64 (wv0 x), .int .u64 (wv3 y), .int .u64 (wv2 y), .int .u64 (wv1 y), .int .u64 (wv0 y), .int .u64 (wv3 u), .int .u64 (wv2 u), .int .u64 (wv1 u), .int .u64 (wv0 u)]) (T rfl rfl) rfl ?_)
  intro b1 w2 n3
  have N4 : w.heap.size ≤ b1 := n3.eq ▸ E0.size
  have E5 := below_ext E0 E0.size n3.ext
  refine lw_e (oe_alloc ze97 ?_)
  intro b6 w7 n8
  have N9 : w.heap.size ≤ b6 := n8.eq ▸ E5.size
  have : b1 < b6 := n8.eq ▸ lt_of_blk n3.blk
  have E10 := below_ext E5 E5.size n8.ext
  refine lw_nil ?_
  refine rk_seq ?_
  refine rk_any (fun w => w.heap[b1]? = some (.cells #[.int .u64 (wv3 x), .int .u64 (wv2 x), .int .u64 (wv1 x), .int .u64 (wv0 x), .int .u64 (wv3 y), .int .u64 (wv2 y), .int .u64 (wv1 y), .int .u64 (wv0 y), .int .u64 (wv3 u), .int .u64 (wv2 u), .int .u64 (wv1 u), .int .u64 (wv0 u)] 46)) [10] mo ?_
  intro w11 d12
  have E13 := below_ext E10 E10.size d12.ext
  have H14 := (d12.ext.blk (n8.ext.blk n3.blk))
  refine aw_pure 0 (.pointer (some ⟨b1, 0, none⟩)) rfl (by kernel_rfl) .none H14 (fun _ => dv_fieldAddr (a := ⟨b1, 0, none⟩) (a' := ⟨b1, 0, none⟩) fo46_0 (T rfl rfl) rfl) ?_
  refine aw_load 1 (.agg #[.int .u64 (wv3 x), .int .u64 (wv2 x), .int .u64 (wv1 x), .int .u64 (wv0 x)]) rfl (by kernel_rfl) .none H14 (fun _ s => dv_loads (l := [.int .u64 (wv3 x), .int .u64 (wv2 x), .int .u64 (wv1 x), .int .u64 (wv0 x)]) agt25 sz25 (T rfl rfl) s rfl) ?_
  refine aw_pure 3 (.pointer (some ⟨b1, 4, none⟩)) rfl (by kernel_rfl) .none H14 (fun _ => dv_fieldAddr (a := ⟨b1, 0, none⟩) (a' := ⟨b1, 4, none⟩) fo46_1 (T rfl rfl) rfl) ?_
  refine aw_load 4 (.agg #[.int .u64 (wv3 y), .int .u64 (wv2 y), .int .u64 (wv1 y), .int .u64 (wv0 y)]) rfl (by kernel_rfl) .none H14 (fun _ s => dv_loads (l := [.int .u64 (wv3 y), .int .u64 (wv2 y), .int .u64 (wv1 y), .int .u64 (wv0 y)]) agt25 sz25 (T rfl rfl) s rfl) ?_
  refine aw_pure 6 (.pointer (some ⟨b1, 8, none⟩)) rfl (by kernel_rfl) .none H14 (fun _ => dv_fieldAddr (a := ⟨b1, 0, none⟩) (a' := ⟨b1, 8, none⟩) fo46_2 (T rfl rfl) rfl) ?_
  refine aw_load 7 (.agg #[.int .u64 (wv3 u), .int .u64 (wv2 u), .int .u64 (wv1 u), .int .u64 (wv0 u)]) rfl (by kernel_rfl) .none H14 (fun _ s => dv_loads (l := [.int .u64 (wv3 u), .int .u64 (wv2 u), .int .u64 (wv1 u), .int .u64 (wv0 u)]) agt25 sz25 (T rfl rfl) s rfl) ?_
  refine aw_one 2 rfl (by kernel_rfl) .none (oe_callf (vs := [.agg #[.int .u64 (wv3 x), .int .u64 (wv2 x), .int .u64 (wv1 x), .int .u64 (wv0 x)]]) co47 (ar1 (T rfl rfl)) (wnumz_ok (z := x) fx_) ?_)
  rintro _ w20 ⟨nr15, A16, n17, c18, rfl, e21, h19⟩
  have E22 := below_ext E13 E13.size e21
  have lh19 := Num.len (by decide) h19
  have H23 := (e21.blk H14)
  refine ⟨.inr H23, ?_⟩
  refine aw_one 5 rfl (by kernel_rfl) .none (oe_callf (vs := [.agg #[.int .u64 (wv3 y), .int .u64 (wv2 y), .int .u64 (wv1 y), .int .u64 (wv0 y)]]) co47 (ar1 (T rfl rfl)) (wnumz_ok (z := y) fy_) ?_)
  rintro _ w29 ⟨nr24, A25, n26, c27, rfl, e30, h28⟩
  have E31 := below_ext E22 E22.size e30
  have lh28 := Num.len (by decide) h28
  have H32 := (e30.blk H23)
  refine ⟨.inr H32, ?_⟩
  refine aw_one 8 rfl (by kernel_rfl) .none (oe_callf (vs := [.agg #[.int .u64 (wv3 u), .int .u64 (wv2 u), .int .u64 (wv1 u), .int .u64 (wv0 u)]]) co47 (ar1 (T rfl rfl)) (wnumz_ok (z := u) fu_) ?_)
  rintro _ w38 ⟨nr33, A34, n35, c36, rfl, e39, h37⟩
  have E40 := below_ext E31 E31.size e39
  have lh37 := Num.len (by decide) h37
  have H41 := (e39.blk H32)
  refine ⟨.inr H41, ?_⟩
  refine aw_pure 9 (.agg #[.bool nr15, .slice A16 n17 c18, .bool nr24, .slice A25 n26 c27, .bool nr33, .slice A34 n35 c36]) rfl (by kernel_rfl) .none H41 (fun _ => dv_build (pv := [(0, .agg #[.bool nr15, .slice A16 n17 c18]), (1, .agg #[.bool nr24, .slice A25 n26 c27]), (2, .agg #[.bool nr33, .slice A34 n35 c36])]) (l := [.bool nr15, .slice A16 n17 c18, .bool nr24, .slice A25 n26 c27, .bool nr33, .slice A34 n35 c36]) zc97 pl97 ⟨rfl, (T rfl rfl), ⟨rfl, (T rfl rfl), ⟨rfl, (T rfl rfl), trivial⟩⟩⟩ rfl) ?_
  have H42 := (e39.blk (e30.blk (e21.blk (d12.ext.blk n8.blk))))
  refine aw_one 10 rfl (by kernel_rfl) .none (oe_store (v := .agg #[.bool nr15, .slice A16 n17 c18, .bool nr24, .slice A25 n26 c27, .bool nr33, .slice A34 n35 c36]) (vs := [.bool nr15, .slice A16 n17 c18, .bool nr24, .slice A25 n26 c27, .bool nr33, .slice A34 n35 c36]) (l := [.bool nr15, .slice A16 n17 c18, .bool nr24, .slice A25 n26 c27, .bool nr33, .slice A34 n35 c36]) (T rfl rfl) (T rfl rfl) sz97 rfl rfl rfl H42 rfl ?_)
  intro w43 s44 H45
  have E46 := below_st E40 N9 s44
  refine ⟨.inl rfl, ?_⟩
  refine aw_done (by kernel_rfl) ?_
  refine rk_ret Try.func72 (v := .agg #[.bool nr15, .slice A16 n17 c18, .bool nr24, .slice A25 n26 c27, .bool nr33, .slice A34 n35 c36]) (res1 Try.results72 (rv_cells (l := [.bool nr15, .slice A16 n17 c18, .bool nr24, .slice A25 n26 c27, .bool nr33, .slice A34 n35 c36]) agt97 sz97 rfl rfl H45 rfl)) ⟨_, rfl, ?_⟩
  have h47 := (((h19.ext e30).ext e39).st s44 H42 (by decide))
  have h48 := ((h28.ext e39).st s44 H42 (by decide))
  have h49 := (h37.st s44 H42 (by decide))
  exact ⟨_, _, _, _, _, _, _, _, _, _, _, _, rfl, E46, h47.to rfl (Nat.le_refl _), h48.to rfl (Nat.le_refl _), h49.to rfl (Nat.le_refl _)⟩

set_option maxHeartbeats 1000000 in
theorem l3Of_ok {w : World}  {x y u : Int} (fx_ : fits x) (fy_ : fits y) (fu_ : fits u)   : Ct Try.prog 68 [.agg #[.int .u64 (wv3 x), .int .u64 (wv2 x), .int .u64 (wv1 x), .int .u64 (wv0 x), .int .u64 (wv3 y), .int .u64 (wv2 y), .int .u64 (wv1 y), .int .u64 (wv0 y), .int .u64 (wv3 u), .int .u64 (wv2 u), .int .u64 (wv1 u), .int .u64 (wv0 u)]] w fun v w1 => ∃ nr0_ A0_ l0_ c0_ nr1_ A1_ l1_ c1_ nr2_ A2_ l2_ c2_, v = .agg #[.bool nr0_, .slice A0_ l0_ c0_, .bool nr1_, .slice A1_ l1_ c1_, .bool nr2_, .slice A2_ l2_ c2_] ∧ Ext w w1 ∧ Num 32 115 .u32 w1 nr0_ A0_ l0_ c0_ (x) (256) ∧ Num 32 115 .u32 w1 nr1_ A1_ l1_ c1_ (y) (256) ∧ Num 32 115 .u32 w1 nr2_ A2_ l2_ c2_ (u) (256) := by
  refine ct_run (n := 13) Try.func68 rfl Try.ntmps68 rfl ?_
  have E0 : Below w.heap.size w w := Below.refl _ _
  refine rk_seq ?_
  refine rk_reg ?_
  refine lw_e (oe_box (v := .agg #[.int .u64 (wv3 x), .int .u64 (wv2 x), .int .u64 (wv1 x), .int .u64 (wv0 x), .int .u64 (wv3 y), .int .u64 (wv2 y), .int .u64 (wv1 y), .int .u64 (wv0 y), .int .u64 (wv3 u), .int .u64 (wv2 u), .int .u64 (wv1 u), .int .u64 (wv0 u)]) (cs := #[.int .u64 (wv3 x), .int .u64 (wv2 x), .int .u64 (wv1 x), .int .u64 (wv0 x), .int .u64 (wv3 y), .int .u64 (wv2 y), .int .u64 (wv1 y), .int .u64 (wv0 y), .int .u64 (wv3 u), .int .u64 (wv2 u), .int .u64 (wv1 u), .int .u64 (wv0 u)]) (T rfl rfl) rfl ?_)
  intro b1 w2 n3
  have N4 : w.heap.size ≤ b1 := n3.eq ▸ E0.size
  have E5 := below_ext E0 E0.size n3.ext
  refine lw_e (oe_alloc ze92 ?_)
  intro b6 w7 n8
  have N9 : w.heap.size ≤ b6 := n8.eq ▸ E5.size
  have : b1 < b6 := n8.eq ▸ lt_of_blk n3.blk
  have E10 := below_ext E5 E5.size n8.ext
  refine lw_nil ?_
  refine rk_seq ?_
  refine rk_any (fun w => w.heap[b1]? = some (.cells #[.int .u64 (wv3 x), .int .u64 (wv2 x), .int .u64 (wv1 x), .int .u64 (wv0 x), .int .u64 (wv3 y), .int .u64 (wv2 y), .int .u64 (wv1 y), .int .u64 (wv0 y), .int .u64 (wv3 u), .int .u64 (wv2 u), .int .u64 (wv1 u), .int .u64 (wv0 u)] 46)) [10] mo ?_
  intro w11 d12
  have E13 := below_ext E10 E10.size d12.ext
  have H14 := (d12.ext.blk (n8.ext.blk n3.blk))
  refine aw_pure 0 (.pointer (some ⟨b1, 0, none⟩)) rfl (by kernel_rfl) .none H14 (fun _ => dv_fieldAddr (a := ⟨b1, 0, none⟩) (a' := ⟨b1, 0, none⟩) fo46_0 (T rfl rfl) rfl) ?_
  refine aw_load 1 (.agg #[.int .u64 (wv3 x), .int .u64 (wv2 x), .int .u64 (wv1 x), .int .u64 (wv0 x)]) rfl (by kernel_rfl) .none H14 (fun _ s => dv_loads (l := [.int .u64 (wv3 x), .int .u64 (wv2 x), .int .u64 (wv1 x), .int .u64 (wv0 x)]) agt25 sz25 (T rfl rfl) s rfl) ?_
  refine aw_pure 3 (.pointer (some ⟨b1, 4, none⟩)) rfl (by kernel_rfl) .none H14 (fun _ => dv_fieldAddr (a := ⟨b1, 0, none⟩) (a' := ⟨b1, 4, none⟩) fo46_1 (T rfl rfl) rfl) ?_
  refine aw_load 4 (.agg #[.int .u64 (wv3 y), .int .u64 (wv2 y), .int .u64 (wv1 y), .int .u64 (wv0 y)]) rfl (by kernel_rfl) .none H14 (fun _ s => dv_loads (l := [.int .u64 (wv3 y), .int .u64 (wv2 y), .int .u64 (wv1 y), .int .u64 (wv0 y)]) agt25 sz25 (T rfl rfl) s rfl) ?_
  refine aw_pure 6 (.pointer (some ⟨b1, 8, none⟩)) rfl (by kernel_rfl) .none H14 (fun _ => dv_fieldAddr (a := ⟨b1, 0, none⟩) (a' := ⟨b1, 8, none⟩) fo46_2 (T rfl rfl) rfl) ?_
  refine aw_load 7 (.agg #[.int .u64 (wv3 u), .int .u64 (wv2 u), .int .u64 (wv1 u), .int .u64 (wv0 u)]) rfl (by kernel_rfl) .none H14 (fun _ s => dv_loads (l := [.int .u64 (wv3 u), .int .u64 (wv2 u), .int .u64 (wv1 u), .int .u64 (wv0 u)]) agt25 sz25 (T rfl rfl) s rfl) ?_
  refine aw_one 2 rfl (by kernel_rfl) .none (oe_callf (vs := [.agg #[.int .u64 (wv3 x), .int .u64 (wv2 x), .int .u64 (wv1 x), .int .u64 (wv0 x)]]) co46 (ar1 (T rfl rfl)) (l1Fromz_ok (z := x) fx_) ?_)
  rintro _ w20 ⟨nr15, A16, n17, c18, rfl, e21, h19⟩
  have E22 := below_ext E13 E13.size e21
  have lh19 := Num.len (by decide) h19
  have H23 := (e21.blk H14)
  refine ⟨.inr H23, ?_⟩
  refine aw_one 5 rfl (by kernel_rfl) .none (oe_callf (vs := [.agg #[.int .u64 (wv3 y), .int .u64 (wv2 y), .int .u64 (wv1 y), .int .u64 (wv0 y)]]) co46 (ar1 (T rfl rfl)) (l1Fromz_ok (z := y) fy_) ?_)
  rintro _ w29 ⟨nr24, A25, n26, c27, rfl, e30, h28⟩
  have E31 := below_ext E22 E22.size e30
  have lh28 := Num.len (by decide) h28
  have H32 := (e30.blk H23)
  refine ⟨.inr H32, ?_⟩
  refine aw_one 8 rfl (by kernel_rfl) .none (oe_callf (vs := [.agg #[.int .u64 (wv3 u), .int .u64 (wv2 u), .int .u64 (wv1 u), .int .u64 (wv0 u)]]) co46 (ar1 (T rfl rfl)) (l1Fromz_ok (z := u) fu_) ?_)
  rintro _ w38 ⟨nr33, A34, n35, c36, rfl, e39, h37⟩
  have E40 := below_ext E31 E31.size e39
  have lh37 := Num.len (by decide) h37
  have H41 := (e39.blk H32)
  refine ⟨.inr H41, ?_⟩
  refine aw_pure 9 (.agg #[.bool nr15, .slice A16 n17 c18, .bool nr24, .slice A25 n26 c27, .bool nr33, .slice A34 n35 c36]) rfl (by kernel_rfl) .none H41 (fun _ => dv_build (pv := [(0, .agg #[.bool nr15, .slice A16 n17 c18]), (1, .agg #[.bool nr24, .slice A25 n26 c27]), (2, .agg #[.bool nr33, .slice A34 n35 c36])]) (l := [.bool nr15, .slice A16 n17 c18, .bool nr24, .slice A25 n26 c27, .bool nr33, .slice A34 n35 c36]) zc92 pl92 ⟨rfl, (T rfl rfl), ⟨rfl, (T rfl rfl), ⟨rfl, (T rfl rfl), trivial⟩⟩⟩ rfl) ?_
  have H42 := (e39.blk (e30.blk (e21.blk (d12.ext.blk n8.blk))))
  refine aw_one 10 rfl (by kernel_rfl) .none (oe_store (v := .agg #[.bool nr15, .slice A16 n17 c18, .bool nr24, .slice A25 n26 c27, .bool nr33, .slice A34 n35 c36]) (vs := [.bool nr15, .slice A16 n17 c18, .bool nr24, .slice A25 n26 c27, .bool nr33, .slice A34 n35 c36]) (l := [.bool nr15, .slice A16 n17 c18, .bool nr24, .slice A25 n26 c27, .bool nr33, .slice A34 n35 c36]) (T rfl rfl) (T rfl rfl) sz92 rfl rfl rfl H42 rfl ?_)
  intro w43 s44 H45
  have E46 := below_st E40 N9 s44
  refine ⟨.inl rfl, ?_⟩
  refine aw_done (by kernel_rfl) ?_
  refine rk_ret Try.func68 (v := .agg #[.bool nr15, .slice A16 n17 c18, .bool nr24, .slice A25 n26 c27, .bool nr33, .slice A34 n35 c36]) (res1 Try.results68 (rv_cells (l := [.bool nr15, .slice A16 n17 c18, .bool nr24, .slice A25 n26 c27, .bool nr33, .slice A34 n35 c36]) agt92 sz92 rfl rfl H45 rfl)) ⟨_, rfl, ?_⟩
  have h47 := (((h19.ext e30).ext e39).st s44 H42 (by decide))
  have h48 := ((h28.ext e39).st s44 H42 (by decide))
  have h49 := (h37.st s44 H42 (by decide))
  exact ⟨_, _, _, _, _, _, _, _, _, _, _, _, rfl, E46, h47.to rfl (Nat.le_refl _), h48.to rfl (Nat.le_refl _), h49.to rfl (Nat.le_refl _)⟩

set_option maxHeartbeats 1000000 in
theorem sPointOk_ok {w : World} {x y u : Int} (fx_ : fits x) (fy_ : fits y) (fu_ : fits u)  : Ct Try.prog 30 [.agg #[.int .u64 (wv3 x), .int .u64 (wv2 x), .int .u64 (wv1 x), .int .u64 (wv0 x), .int .u64 (wv3 y), .int .u64 (wv2 y), .int .u64 (wv1 y), .int .u64 (wv0 y), .int .u64 (wv3 u), .int .u64 (wv2 u), .int .u64 (wv1 u), .int .u64 (wv0 u)]] w fun v w1 => v = .bool (decide (pOk x y u)) ∧ Ext w w1 := by
  refine ct_run (n := 27) Try.func30 rfl Try.ntmps30 rfl ?_
  have E0 : Below w.heap.size w w := Below.refl _ _
  refine rk_seq ?_
  refine rk_reg ?_
  refine lw_e (oe_box (v := .agg #[.int .u64 (wv3 x), .int .u64 (wv2 x), .int .u64 (wv1 x), .int .u64 (wv0 x), .int .u64 (wv3 y), .int .u64 (wv2 y), .int .u64 (wv1 y), .int .u64 (wv0 y), .int .u64 (wv3 u), .int .u64 (wv2 u), .int .u64 (wv1 u), .int .u64 (wv0 u)]) (cs := #[.int .u64 (wv3 x), .int .u64 (wv2 x), .int .u64 (wv1 x), .int .u64 (wv0 x), .int .u64 (wv3 y), .int .u64 (wv2 y), .int .u64 (wv1 y), .int .u64 (wv0 y), .int .u64 (wv3 u), .int .u64 (wv2 u), .int .u64 (wv1 u), .int .u64 (wv0 u)]) (T rfl rfl) rfl ?_)
  intro b1 w2 n3
  have N4 : w.heap.size ≤ b1 := n3.eq ▸ E0.size
  have E5 := below_ext E0 E0.size n3.ext
  refine lw_v (.bool false) (dv_assign C) ?_
  refine lw_nil ?_
  refine rk_seq ?_
  refine rk_reg ?_
  refine lw_v (.agg #[.int .u64 (wv3 x), .int .u64 (wv2 x), .int .u64 (wv1 x), .int .u64 (wv0 x), .int .u64 (wv3 y), .int .u64 (wv2 y), .int .u64 (wv1 y), .int .u64 (wv0 y), .int .u64 (wv3 u), .int .u64 (wv2 u), .int .u64 (wv1 u), .int .u64 (wv0 u)]) (dv_loads (l := [.int .u64 (wv3 x), .int .u64 (wv2 x), .int .u64 (wv1 x), .int .u64 (wv0 x), .int .u64 (wv3 y), .int .u64 (wv2 y), .int .u64 (wv1 y), .int .u64 (wv0 y), .int .u64 (wv3 u), .int .u64 (wv2 u), .int .u64 (wv1 u), .int .u64 (wv0 u)]) agt46 sz46 (T rfl rfl) n3.blk rfl) ?_
  refine lw_e (oe_callf (vs := [.agg #[.int .u64 (wv3 x), .int .u64 (wv2 x), .int .u64 (wv1 x), .int .u64 (wv0 x), .int .u64 (wv3 y), .int .u64 (wv2 y), .int .u64 (wv1 y), .int .u64 (wv0 y), .int .u64 (wv3 u), .int .u64 (wv2 u), .int .u64 (wv1 u), .int .u64 (wv0 u)]]) co68 (ar1 (T rfl rfl)) (l3Of_ok fx_ fy_ fu_  ) ?_)
  rintro _ w21 ⟨nr6, A7, n8, c9, nr10, A11, n12, c13, nr14, A15, n16, c17, rfl, e22, h18, h19, h20⟩
  have E23 := below_ext E5 E5.size e22
  have lh18 := Num.len (by decide) h18
  have lh19 := Num.len (by decide) h19
  have lh20 := Num.len (by decide) h20
  refine lw_e (oe_alloc ze92 ?_)
  intro b24 w25 n26
  have N27 : w.heap.size ≤ b24 := n26.eq ▸ E23.size
  have H28 := (e22.blk n3.blk)
  have : b1 < b24 := n26.eq ▸ lt_of_blk H28
  have E29 := below_ext E23 E23.size n26.ext
  refine lw_e (oe_store (v := .agg #[.bool nr6, .slice A7 n8 c9, .bool nr10, .slice A11 n12 c13, .bool nr14, .slice A15 n16 c17]) (vs := [.bool nr6, .slice A7 n8 c9, .bool nr10, .slice A11 n12 c13, .bool nr14, .slice A15 n16 c17]) (l := [.bool nr6, .slice A7 n8 c9, .bool nr10, .slice A11 n12 c13, .bool nr14, .slice A15 n16 c17]) (T rfl rfl) (T rfl rfl) sz92 rfl rfl rfl n26.blk rfl ?_)
  intro w30 s31 H32
  have E33 := below_st E29 N27 s31
  refine lw_nil ?_
  refine rk_seq ?_
  refine rk_any (fun w => w.heap[b24]? = some (.cells #[.bool nr6, .slice A7 n8 c9, .bool nr10, .slice A11 n12 c13, .bool nr14, .slice A15 n16 c17] 92)) [21] mo ?_
  intro w34 d35
  have E36 := below_ext E33 E33.size d35.ext
  have H37 := (d35.ext.blk H32)
  refine aw_pure 0 (.pointer (some ⟨b24, 4, none⟩)) rfl (by kernel_rfl) .none H37 (fun _ => dv_fieldAddr (a := ⟨b24, 0, none⟩) (a' := ⟨b24, 4, none⟩) fo92_2 (T rfl rfl) rfl) ?_
  refine aw_load 1 (.agg #[.bool nr14, .slice A15 n16 c17]) rfl (by kernel_rfl) .none H37 (fun _ s => dv_loads (l := [.bool nr14, .slice A15 n16 c17]) agt62 sz62 (T rfl rfl) s rfl) ?_
  have h38 := (((h20.ext n26.ext).st s31 n26.blk (by decide)).ext d35.ext)
  refine aw_one 2 rfl (by kernel_rfl) .none (oe_callf (vs := [.agg #[.bool nr14, .slice A15 n16 c17]]) co69 (ar1 (T rfl rfl)) (l1Sign_ok h38 ) ?_)
  rintro _ w39 ⟨rfl, e40⟩
  have E41 := below_ext E36 E36.size e40
  have H42 := (e40.blk H37)
  refine ⟨.inr H42, ?_⟩
  refine aw_pure 3 (.bool (decide (0 < (sgnI u)))) rfl (by kernel_rfl) .none H42 (fun _ => dv_gtr (a := sgnI u) (b := 0) (T rfl rfl) C) ?_
  refine aw_pure 4 (.bool (decide (0 < (sgnI u)))) rfl (by kernel_rfl) .none H42 (fun _ => dv_move (T rfl rfl)) ?_
  by_cases hb43 : 0 < (sgnI u)
  · -- T
    refine aw_load 5 (.agg #[.bool nr6, .slice A7 n8 c9, .bool nr10, .slice A11 n12 c13, .bool nr14, .slice A15 n16 c17]) rfl (by kernel_rfl) (.yes (d := 10) rfl rfl (congrArg Value.bool (decide_eq_true hb43))) H42 (fun _ s => dv_loads (l := [.bool nr6, .slice A7 n8 c9, .bool nr10, .slice A11 n12 c13, .bool nr14, .slice A15 n16 c17]) agt92 sz92 (T rfl rfl) s rfl) ?_
    have h44 := ((((h18.ext n26.ext).st s31 n26.blk (by decide)).ext d35.ext).ext e40)
    have h45 := ((((h19.ext n26.ext).st s31 n26.blk (by decide)).ext d35.ext).ext e40)
    have h46 := (h38.ext e40)
    refine aw_one 6 rfl (by kernel_rfl) (.yes (d := 10) rfl rfl (congrArg Value.bool (decide_eq_true hb43))) (oe_callf (vs := [.agg #[.bool nr6, .slice A7 n8 c9, .bool nr10, .slice A11 n12 c13, .bool nr14, .slice A15 n16 c17]]) co70 (ar1 (T rfl rfl)) (l3Small_ok h44 h45 h46 (by first | decide | omega) (by first | decide | omega) (by first | decide | omega) ) ?_)
    rintro _ w47 ⟨rfl, e48⟩
    have E49 := below_ext E41 E41.size e48
    have H50 := (e48.blk H42)
    refine ⟨.inr H50, ?_⟩
    refine aw_pure 7 (.bool (decide (sm3 x y u))) rfl (by kernel_rfl) .none H50 (fun _ => dv_pick_t (T rfl (congrArg Value.bool (decide_eq_true hb43))) (T rfl rfl)) ?_
    refine aw_pure 8 (.bool (decide (sm3 x y u))) rfl (by kernel_rfl) .none H50 (fun _ => dv_move (T rfl rfl)) ?_
    by_cases hb51 : sm3 x y u
    · -- TT
      refine aw_pure 9 (.pointer (some ⟨b24, 0, none⟩)) rfl (by kernel_rfl) (.yes (d := 14) rfl rfl (congrArg Value.bool (decide_eq_true hb51))) H50 (fun _ => dv_fieldAddr (a := ⟨b24, 0, none⟩) (a' := ⟨b24, 0, none⟩) fo92_0 (T rfl rfl) rfl) ?_
      refine aw_load 10 (.agg #[.bool nr6, .slice A7 n8 c9]) rfl (by kernel_rfl) (.yes (d := 14) rfl rfl (congrArg Value.bool (decide_eq_true hb51))) H50 (fun _ s => dv_loads (l := [.bool nr6, .slice A7 n8 c9]) agt62 sz62 (T rfl rfl) s rfl) ?_
      refine aw_pure 11 (.pointer (some ⟨b24, 2, none⟩)) rfl (by kernel_rfl) (.yes (d := 14) rfl rfl (congrArg Value.bool (decide_eq_true hb51))) H50 (fun _ => dv_fieldAddr (a := ⟨b24, 0, none⟩) (a' := ⟨b24, 2, none⟩) fo92_1 (T rfl rfl) rfl) ?_
      refine aw_load 12 (.agg #[.bool nr10, .slice A11 n12 c13]) rfl (by kernel_rfl) (.yes (d := 14) rfl rfl (congrArg Value.bool (decide_eq_true hb51))) H50 (fun _ s => dv_loads (l := [.bool nr10, .slice A11 n12 c13]) agt62 sz62 (T rfl rfl) s rfl) ?_
      refine aw_pure 14 (.pointer (some ⟨b24, 4, none⟩)) rfl (by kernel_rfl) (.yes (d := 14) rfl rfl (congrArg Value.bool (decide_eq_true hb51))) H50 (fun _ => dv_fieldAddr (a := ⟨b24, 0, none⟩) (a' := ⟨b24, 4, none⟩) fo92_2 (T rfl rfl) rfl) ?_
      refine aw_load 15 (.agg #[.bool nr14, .slice A15 n16 c17]) rfl (by kernel_rfl) (.yes (d := 14) rfl rfl (congrArg Value.bool (decide_eq_true hb51))) H50 (fun _ s => dv_loads (l := [.bool nr14, .slice A15 n16 c17]) agt62 sz62 (T rfl rfl) s rfl) ?_
      have h52 := (h44.ext e48)
      have h53 := (h45.ext e48)
      refine aw_one 13 rfl (by kernel_rfl) (.yes (d := 14) rfl rfl (congrArg Value.bool (decide_eq_true hb51))) (oe_callf (vs := [.agg #[.bool nr6, .slice A7 n8 c9], .agg #[.bool nr10, .slice A11 n12 c13]]) co71 (ar2 (T rfl rfl) (T rfl rfl)) (l1Gcd_ok h52 h53 (by first | decide | omega) (by first | decide | omega)) ?_)
      rintro _ w59 ⟨nr54, A55, n56, c57, rfl, e60, h58⟩
      have E61 := below_ext E49 E49.size e60
      have lh58 := Num.len (by decide) h58
      have H62 := (e60.blk H50)
      refine ⟨.inr H62, ?_⟩
      have h63 := ((h46.ext e48).ext e60)
      refine aw_one 16 rfl (by kernel_rfl) (.yes (d := 14) rfl rfl (congrArg Value.bool (decide_eq_true hb51))) (oe_callf (vs := [.agg #[.bool nr54, .slice A55 n56 c57], .agg #[.bool nr14, .slice A15 n16 c17]]) co71 (ar2 (T rfl rfl) (T rfl rfl)) (l1Gcd_ok h58 h63 (by first | decide | omega) (by first | decide | omega)) ?_)
      rintro _ w69 ⟨nr64, A65, n66, c67, rfl, e70, h68⟩
      have E71 := below_ext E61 E61.size e70
      have lh68 := Num.len (by decide) h68
      have H72 := (e70.blk H62)
      refine ⟨.inr H72, ?_⟩
      refine aw_one 17 rfl (by kernel_rfl) (.yes (d := 14) rfl rfl (congrArg Value.bool (decide_eq_true hb51))) (oe_callf (vs := [.int .i64 1]) co60 (ar1 C) (l1Int_ok  (by omega)) ?_)
      rintro _ w78 ⟨nr73, A74, n75, c76, rfl, e79, h77⟩
      have E80 := below_ext E71 E71.size e79
      have lh77 := Num.len (by decide) h77
      have H81 := (e79.blk H72)
      refine ⟨.inr H81, ?_⟩
      have h82 := (h68.ext e79)
      refine aw_one 18 rfl (by kernel_rfl) (.yes (d := 14) rfl rfl (congrArg Value.bool (decide_eq_true hb51))) (oe_callf (vs := [.agg #[.bool nr64, .slice A65 n66 c67], .agg #[.bool nr73, .slice A74 n75 c76]]) co59 (ar2 (T rfl rfl) (T rfl rfl)) (l1Cmp_ok h82 h77 (by first | decide | omega) (by first | decide | omega)) ?_)
      rintro _ w83 ⟨rfl, e84⟩
      have E85 := below_ext E80 E80.size e84
      have H86 := (e84.blk H81)
      refine ⟨.inr H86, ?_⟩
      refine aw_pure 19 (.bool (decide ((sgnI ((gI (gI x y) u) - 1)) = 0))) rfl (by kernel_rfl) (.yes (d := 14) rfl rfl (congrArg Value.bool (decide_eq_true hb51))) H86 (fun _ => dv_eql (a := sgnI ((gI (gI x y) u) - 1)) (b := 0) (T rfl rfl) C) ?_
      refine aw_pure 20 (.bool (decide ((sgnI ((gI (gI x y) u) - 1)) = 0))) rfl (by kernel_rfl) .none H86 (fun _ => dv_pick_t (T rfl (congrArg Value.bool (decide_eq_true hb51))) (T rfl rfl)) ?_
      refine aw_last 21 (.bool (decide ((sgnI ((gI (gI x y) u) - 1)) = 0))) rfl (by kernel_rfl) .none (fun _ => dv_assign (T rfl rfl)) ?_
      refine aw_done (by kernel_rfl) ?_
      refine rk_ret Try.func30 (v := .bool (decide ((sgnI ((gI (gI x y) u) - 1)) = 0))) (res1 Try.results30 (rv_tmp rfl rfl)) ⟨_, rfl, ?_⟩
      have h1 : sm3 x y u := by first | assumption | exact sm3_iff.2 (mx3.1 ‹_›)
      have h2 : 0 < u := sgnI_gt.1 (by assumption)
      have h3 := @sgnI_zero (gI3 x y u - 1)
      exact ⟨(vb ⟨fun hh => ⟨h2, h1, by have := h3.1 hh; omega⟩, fun hh => h3.2 (by have := hh.2.2; omega)⟩), E85⟩
    · -- TF
      refine aw_no 9 rfl (by kernel_rfl) (d := 14) rfl rfl (congrArg Value.bool (decide_eq_false hb51)) H50 ?_
      refine aw_no 10 rfl (by kernel_rfl) (d := 14) rfl rfl (congrArg Value.bool (decide_eq_false hb51)) H50 ?_
      refine aw_no 11 rfl (by kernel_rfl) (d := 14) rfl rfl (congrArg Value.bool (decide_eq_false hb51)) H50 ?_
      refine aw_no 12 rfl (by kernel_rfl) (d := 14) rfl rfl (congrArg Value.bool (decide_eq_false hb51)) H50 ?_
      refine aw_no 13 rfl (by kernel_rfl) (d := 14) rfl rfl (congrArg Value.bool (decide_eq_false hb51)) H50 ?_
      refine aw_no 14 rfl (by kernel_rfl) (d := 14) rfl rfl (congrArg Value.bool (decide_eq_false hb51)) H50 ?_
      refine aw_no 15 rfl (by kernel_rfl) (d := 14) rfl rfl (congrArg Value.bool (decide_eq_false hb51)) H50 ?_
      refine aw_no 16 rfl (by kernel_rfl) (d := 14) rfl rfl (congrArg Value.bool (decide_eq_false hb51)) H50 ?_
      refine aw_no 17 rfl (by kernel_rfl) (d := 14) rfl rfl (congrArg Value.bool (decide_eq_false hb51)) H50 ?_
      refine aw_no 18 rfl (by kernel_rfl) (d := 14) rfl rfl (congrArg Value.bool (decide_eq_false hb51)) H50 ?_
      refine aw_no 19 rfl (by kernel_rfl) (d := 14) rfl rfl (congrArg Value.bool (decide_eq_false hb51)) H50 ?_
      refine aw_pure 20 (.bool false) rfl (by kernel_rfl) .none H50 (fun _ => dv_pick_f (T rfl (congrArg Value.bool (decide_eq_false hb51))) C) ?_
      refine aw_last 21 (.bool false) rfl (by kernel_rfl) .none (fun _ => dv_assign (T rfl rfl)) ?_
      refine aw_done (by kernel_rfl) ?_
      refine rk_ret Try.func30 (v := .bool false) (res1 Try.results30 (rv_tmp rfl rfl)) ⟨_, rfl, ?_⟩
      exact ⟨(vf (by intro hh; have h1 := sgnI_gt.2 hh.1; have h2 := hh.2.1; first | (exact absurd h2 (by assumption)) | (exact absurd (mx3.2 (sm3_iff.1 h2)) (by assumption)) | contradiction | omega)), E49⟩
  · -- F
    refine aw_no 5 rfl (by kernel_rfl) (d := 10) rfl rfl (congrArg Value.bool (decide_eq_false hb43)) H42 ?_
    refine aw_no 6 rfl (by kernel_rfl) (d := 10) rfl rfl (congrArg Value.bool (decide_eq_false hb43)) H42 ?_
    refine aw_pure 7 (.bool false) rfl (by kernel_rfl) .none H42 (fun _ => dv_pick_f (T rfl (congrArg Value.bool (decide_eq_false hb43))) C) ?_
    refine aw_pure 8 (.bool false) rfl (by kernel_rfl) .none H42 (fun _ => dv_move (T rfl rfl)) ?_
    refine aw_no 9 rfl (by kernel_rfl) (d := 14) rfl rfl (rfl) H42 ?_
    refine aw_no 10 rfl (by kernel_rfl) (d := 14) rfl rfl (rfl) H42 ?_
    refine aw_no 11 rfl (by kernel_rfl) (d := 14) rfl rfl (rfl) H42 ?_
    refine aw_no 12 rfl (by kernel_rfl) (d := 14) rfl rfl (rfl) H42 ?_
    refine aw_no 13 rfl (by kernel_rfl) (d := 14) rfl rfl (rfl) H42 ?_
    refine aw_no 14 rfl (by kernel_rfl) (d := 14) rfl rfl (rfl) H42 ?_
    refine aw_no 15 rfl (by kernel_rfl) (d := 14) rfl rfl (rfl) H42 ?_
    refine aw_no 16 rfl (by kernel_rfl) (d := 14) rfl rfl (rfl) H42 ?_
    refine aw_no 17 rfl (by kernel_rfl) (d := 14) rfl rfl (rfl) H42 ?_
    refine aw_no 18 rfl (by kernel_rfl) (d := 14) rfl rfl (rfl) H42 ?_
    refine aw_no 19 rfl (by kernel_rfl) (d := 14) rfl rfl (rfl) H42 ?_
    refine aw_pure 20 (.bool false) rfl (by kernel_rfl) .none H42 (fun _ => dv_pick_f (T rfl rfl) C) ?_
    refine aw_last 21 (.bool false) rfl (by kernel_rfl) .none (fun _ => dv_assign (T rfl rfl)) ?_
    refine aw_done (by kernel_rfl) ?_
    refine rk_ret Try.func30 (v := .bool false) (res1 Try.results30 (rv_tmp rfl rfl)) ⟨_, rfl, ?_⟩
    exact ⟨(vf (by intro hh; have h1 := sgnI_gt.2 hh.1; have h2 := hh.2.1; first | (exact absurd h2 (by assumption)) | (exact absurd (mx3.2 (sm3_iff.1 h2)) (by assumption)) | contradiction | omega)), E41⟩

set_option maxHeartbeats 1000000 in
theorem iPointOk_ok {w : World} {x y u : Int} (fx_ : fits x) (fy_ : fits y) (fu_ : fits u)  : Ct Try.prog 32 [.agg #[.int .u64 (wv3 x), .int .u64 (wv2 x), .int .u64 (wv1 x), .int .u64 (wv0 x), .int .u64 (wv3 y), .int .u64 (wv2 y), .int .u64 (wv1 y), .int .u64 (wv0 y), .int .u64 (wv3 u), .int .u64 (wv2 u), .int .u64 (wv1 u), .int .u64 (wv0 u)]] w fun v w1 => v = .bool (decide (pOk x y u)) ∧ Ext w w1 := by
  refine ct_run (n := 36) Try.func32 rfl Try.ntmps32 rfl ?_
  have E0 : Below w.heap.size w w := Below.refl _ _
  refine rk_seq ?_
  refine rk_reg ?_
  refine lw_e (oe_box (v := .agg #[.int .u64 (wv3 x), .int .u64 (wv2 x), .int .u64 (wv1 x), .int .u64 (wv0 x), .int .u64 (wv3 y), .int .u64 (wv2 y), .int .u64 (wv1 y), .int .u64 (wv0 y), .int .u64 (wv3 u), .int .u64 (wv2 u), .int .u64 (wv1 u), .int .u64 (wv0 u)]) (cs := #[.int .u64 (wv3 x), .int .u64 (wv2 x), .int .u64 (wv1 x), .int .u64 (wv0 x), .int .u64 (wv3 y), .int .u64 (wv2 y), .int .u64 (wv1 y), .int .u64 (wv0 y), .int .u64 (wv3 u), .int .u64 (wv2 u), .int .u64 (wv1 u), .int .u64 (wv0 u)]) (T rfl rfl) rfl ?_)
  intro b1 w2 n3
  have N4 : w.heap.size ≤ b1 := n3.eq ▸ E0.size
  have E5 := below_ext E0 E0.size n3.ext
  refine lw_v (.bool false) (dv_assign C) ?_
  refine lw_nil ?_
  refine rk_seq ?_
  refine rk_reg ?_
  refine lw_v (.agg #[.int .u64 (wv3 x), .int .u64 (wv2 x), .int .u64 (wv1 x), .int .u64 (wv0 x), .int .u64 (wv3 y), .int .u64 (wv2 y), .int .u64 (wv1 y), .int .u64 (wv0 y), .int .u64 (wv3 u), .int .u64 (wv2 u), .int .u64 (wv1 u), .int .u64 (wv0 u)]) (dv_loads (l := [.int .u64 (wv3 x), .int .u64 (wv2 x), .int .u64 (wv1 x), .int .u64 (wv0 x), .int .u64 (wv3 y), .int .u64 (wv2 y), .int .u64 (wv1 y), .int .u64 (wv0 y), .int .u64 (wv3 u), .int .u64 (wv2 u), .int .u64 (wv1 u), .int .u64 (wv0 u)]) agt46 sz46 (T rfl rfl) n3.blk rfl) ?_
  refine lw_e (oe_callf (vs := [.agg #[.int .u64 (wv3 x), .int .u64 (wv2 x), .int .u64 (wv1 x), .int .u64 (wv0 x), .int .u64 (wv3 y), .int .u64 (wv2 y), .int .u64 (wv1 y), .int .u64 (wv0 y), .int .u64 (wv3 u), .int .u64 (wv2 u), .int .u64 (wv1 u), .int .u64 (wv0 u)]]) co72 (ar1 (T rfl rfl)) (spot_ok fx_ fy_ fu_  ) ?_)
  rintro _ w21 ⟨nr6, A7, n8, c9, nr10, A11, n12, c13, nr14, A15, n16, c17, rfl, e22, h18, h19, h20⟩
  have E23 := below_ext E5 E5.size e22
  have lh18 := Num.len (by decide) h18
  have lh19 := Num.len (by decide) h19
  have lh20 := Num.len (by decide) h20
  refine lw_e (oe_alloc ze97 ?_)
  intro b24 w25 n26
  have N27 : w.heap.size ≤ b24 := n26.eq ▸ E23.size
  have H28 := (e22.blk n3.blk)
  have : b1 < b24 := n26.eq ▸ lt_of_blk H28
  have E29 := below_ext E23 E23.size n26.ext
  refine lw_e (oe_store (v := .agg #[.bool nr6, .slice A7 n8 c9, .bool nr10, .slice A11 n12 c13, .bool nr14, .slice A15 n16 c17]) (vs := [.bool nr6, .slice A7 n8 c9, .bool nr10, .slice A11 n12 c13, .bool nr14, .slice A15 n16 c17]) (l := [.bool nr6, .slice A7 n8 c9, .bool nr10, .slice A11 n12 c13, .bool nr14, .slice A15 n16 c17]) (T rfl rfl) (T rfl rfl) sz97 rfl rfl rfl n26.blk rfl ?_)
  intro w30 s31 H32
  have E33 := below_st E29 N27 s31
  refine lw_nil ?_
  refine rk_seq ?_
  refine rk_any (fun w => w.heap[b24]? = some (.cells #[.bool nr6, .slice A7 n8 c9, .bool nr10, .slice A11 n12 c13, .bool nr14, .slice A15 n16 c17] 97)) [30] mo ?_
  intro w34 d35
  have E36 := below_ext E33 E33.size d35.ext
  have H37 := (d35.ext.blk H32)
  refine aw_pure 0 (.pointer (some ⟨b24, 4, none⟩)) rfl (by kernel_rfl) .none H37 (fun _ => dv_fieldAddr (a := ⟨b24, 0, none⟩) (a' := ⟨b24, 4, none⟩) fo97_2 (T rfl rfl) rfl) ?_
  refine aw_load 1 (.agg #[.bool nr14, .slice A15 n16 c17]) rfl (by kernel_rfl) .none H37 (fun _ s => dv_loads (l := [.bool nr14, .slice A15 n16 c17]) agt69 sz69 (T rfl rfl) s rfl) ?_
  have h38 := (((h20.ext n26.ext).st s31 n26.blk (by decide)).ext d35.ext)
  refine aw_one 2 rfl (by kernel_rfl) .none (oe_callf (vs := [.agg #[.bool nr14, .slice A15 n16 c17]]) co73 (ar1 (T rfl rfl)) (nsign_ok h38 ) ?_)
  rintro _ w39 ⟨rfl, e40⟩
  have E41 := below_ext E36 E36.size e40
  have H42 := (e40.blk H37)
  refine ⟨.inr H42, ?_⟩
  refine aw_pure 3 (.bool (decide (0 < (sgnI u)))) rfl (by kernel_rfl) .none H42 (fun _ => dv_gtr (a := sgnI u) (b := 0) (T rfl rfl) C) ?_
  refine aw_pure 4 (.bool (decide (0 < (sgnI u)))) rfl (by kernel_rfl) .none H42 (fun _ => dv_move (T rfl rfl)) ?_
  by_cases hb43 : 0 < (sgnI u)
  · -- T
    refine aw_pure 5 (.pointer (some ⟨b24, 0, none⟩)) rfl (by kernel_rfl) (.yes (d := 10) rfl rfl (congrArg Value.bool (decide_eq_true hb43))) H42 (fun _ => dv_fieldAddr (a := ⟨b24, 0, none⟩) (a' := ⟨b24, 0, none⟩) fo97_0 (T rfl rfl) rfl) ?_
    refine aw_load 6 (.agg #[.bool nr6, .slice A7 n8 c9]) rfl (by kernel_rfl) (.yes (d := 10) rfl rfl (congrArg Value.bool (decide_eq_true hb43))) H42 (fun _ s => dv_loads (l := [.bool nr6, .slice A7 n8 c9]) agt69 sz69 (T rfl rfl) s rfl) ?_
    refine aw_pure 8 (.pointer (some ⟨b24, 2, none⟩)) rfl (by kernel_rfl) (.yes (d := 10) rfl rfl (congrArg Value.bool (decide_eq_true hb43))) H42 (fun _ => dv_fieldAddr (a := ⟨b24, 0, none⟩) (a' := ⟨b24, 2, none⟩) fo97_1 (T rfl rfl) rfl) ?_
    refine aw_load 9 (.agg #[.bool nr10, .slice A11 n12 c13]) rfl (by kernel_rfl) (.yes (d := 10) rfl rfl (congrArg Value.bool (decide_eq_true hb43))) H42 (fun _ s => dv_loads (l := [.bool nr10, .slice A11 n12 c13]) agt69 sz69 (T rfl rfl) s rfl) ?_
    refine aw_pure 11 (.pointer (some ⟨b24, 4, none⟩)) rfl (by kernel_rfl) (.yes (d := 10) rfl rfl (congrArg Value.bool (decide_eq_true hb43))) H42 (fun _ => dv_fieldAddr (a := ⟨b24, 0, none⟩) (a' := ⟨b24, 4, none⟩) fo97_2 (T rfl rfl) rfl) ?_
    refine aw_load 12 (.agg #[.bool nr14, .slice A15 n16 c17]) rfl (by kernel_rfl) (.yes (d := 10) rfl rfl (congrArg Value.bool (decide_eq_true hb43))) H42 (fun _ s => dv_loads (l := [.bool nr14, .slice A15 n16 c17]) agt69 sz69 (T rfl rfl) s rfl) ?_
    have h44 := ((((h18.ext n26.ext).st s31 n26.blk (by decide)).ext d35.ext).ext e40)
    refine aw_one 7 rfl (by kernel_rfl) (.yes (d := 10) rfl rfl (congrArg Value.bool (decide_eq_true hb43))) (oe_callf (vs := [.agg #[.bool nr6, .slice A7 n8 c9]]) co74 (ar1 (T rfl rfl)) (nsize_num h44 (by first | omega | (simp; done) | (simp; omega))) ?_)
    rintro _ w45 ⟨rfl, e46⟩
    have E47 := below_ext E41 E41.size e46
    have H48 := (e46.blk H42)
    refine ⟨.inr H48, ?_⟩
    have h49 := (((((h19.ext n26.ext).st s31 n26.blk (by decide)).ext d35.ext).ext e40).ext e46)
    refine aw_one 10 rfl (by kernel_rfl) (.yes (d := 10) rfl rfl (congrArg Value.bool (decide_eq_true hb43))) (oe_callf (vs := [.agg #[.bool nr10, .slice A11 n12 c13]]) co74 (ar1 (T rfl rfl)) (nsize_num h49 (by first | omega | (simp; done) | (simp; omega))) ?_)
    rintro _ w50 ⟨rfl, e51⟩
    have E52 := below_ext E47 E47.size e51
    have H53 := (e51.blk H48)
    refine ⟨.inr H53, ?_⟩
    have h54 := (((h38.ext e40).ext e46).ext e51)
    refine aw_one 13 rfl (by kernel_rfl) (.yes (d := 10) rfl rfl (congrArg Value.bool (decide_eq_true hb43))) (oe_callf (vs := [.agg #[.bool nr14, .slice A15 n16 c17]]) co74 (ar1 (T rfl rfl)) (nsize_num h54 (by first | omega | (simp; done) | (simp; omega))) ?_)
    rintro _ w55 ⟨rfl, e56⟩
    have E57 := below_ext E52 E52.size e56
    have H58 := (e56.blk H53)
    refine ⟨.inr H58, ?_⟩
    refine aw_pure 14 (.int .i64 (mx (mx ((nbits (x).natAbs : Int)) ((nbits (y).natAbs : Int))) ((nbits (u).natAbs : Int)))) rfl (by kernel_rfl) (.yes (d := 10) rfl rfl (congrArg Value.bool (decide_eq_true hb43))) H58 (fun _ => dv_max3 (a := (nbits (x).natAbs : Int)) (b := (nbits (y).natAbs : Int)) (c := (nbits (u).natAbs : Int)) (T rfl rfl) (T rfl rfl) (T rfl rfl)) ?_
    refine aw_pure 15 (.bool (decide ((mx (mx ((nbits (x).natAbs : Int)) ((nbits (y).natAbs : Int))) ((nbits (u).natAbs : Int))) ≤ 80))) rfl (by kernel_rfl) (.yes (d := 10) rfl rfl (congrArg Value.bool (decide_eq_true hb43))) H58 (fun _ => dv_leq (a := mx (mx ((nbits (x).natAbs : Int)) ((nbits (y).natAbs : Int))) ((nbits (u).natAbs : Int))) (b := 80) (T rfl rfl) C) ?_
    refine aw_pure 16 (.bool (decide ((mx (mx ((nbits (x).natAbs : Int)) ((nbits (y).natAbs : Int))) ((nbits (u).natAbs : Int))) ≤ 80))) rfl (by kernel_rfl) .none H58 (fun _ => dv_pick_t (T rfl (congrArg Value.bool (decide_eq_true hb43))) (T rfl rfl)) ?_
    refine aw_pure 17 (.bool (decide ((mx (mx ((nbits (x).natAbs : Int)) ((nbits (y).natAbs : Int))) ((nbits (u).natAbs : Int))) ≤ 80))) rfl (by kernel_rfl) .none H58 (fun _ => dv_move (T rfl rfl)) ?_
    by_cases hb59 : (mx (mx ((nbits (x).natAbs : Int)) ((nbits (y).natAbs : Int))) ((nbits (u).natAbs : Int))) ≤ 80
    · -- TT
      refine aw_pure 18 (.pointer (some ⟨b24, 0, none⟩)) rfl (by kernel_rfl) (.yes (d := 23) rfl rfl (congrArg Value.bool (decide_eq_true hb59))) H58 (fun _ => dv_fieldAddr (a := ⟨b24, 0, none⟩) (a' := ⟨b24, 0, none⟩) fo97_0 (T rfl rfl) rfl) ?_
      refine aw_load 19 (.agg #[.bool nr6, .slice A7 n8 c9]) rfl (by kernel_rfl) (.yes (d := 23) rfl rfl (congrArg Value.bool (decide_eq_true hb59))) H58 (fun _ s => dv_loads (l := [.bool nr6, .slice A7 n8 c9]) agt69 sz69 (T rfl rfl) s rfl) ?_
      refine aw_pure 20 (.pointer (some ⟨b24, 2, none⟩)) rfl (by kernel_rfl) (.yes (d := 23) rfl rfl (congrArg Value.bool (decide_eq_true hb59))) H58 (fun _ => dv_fieldAddr (a := ⟨b24, 0, none⟩) (a' := ⟨b24, 2, none⟩) fo97_1 (T rfl rfl) rfl) ?_
      refine aw_load 21 (.agg #[.bool nr10, .slice A11 n12 c13]) rfl (by kernel_rfl) (.yes (d := 23) rfl rfl (congrArg Value.bool (decide_eq_true hb59))) H58 (fun _ s => dv_loads (l := [.bool nr10, .slice A11 n12 c13]) agt69 sz69 (T rfl rfl) s rfl) ?_
      refine aw_pure 22 (.pointer (some ⟨b24, 4, none⟩)) rfl (by kernel_rfl) (.yes (d := 23) rfl rfl (congrArg Value.bool (decide_eq_true hb59))) H58 (fun _ => dv_fieldAddr (a := ⟨b24, 0, none⟩) (a' := ⟨b24, 4, none⟩) fo97_2 (T rfl rfl) rfl) ?_
      refine aw_load 23 (.agg #[.bool nr14, .slice A15 n16 c17]) rfl (by kernel_rfl) (.yes (d := 23) rfl rfl (congrArg Value.bool (decide_eq_true hb59))) H58 (fun _ s => dv_loads (l := [.bool nr14, .slice A15 n16 c17]) agt69 sz69 (T rfl rfl) s rfl) ?_
      refine aw_one 24 rfl (by kernel_rfl) (.yes (d := 23) rfl rfl (congrArg Value.bool (decide_eq_true hb59))) (oe_buildSlice (pv := [(0, .agg #[.bool nr6, .slice A7 n8 c9]), (1, .agg #[.bool nr10, .slice A11 n12 c13]), (2, .agg #[.bool nr14, .slice A15 n16 c17])]) (init := [.bool false, .slice none 0 0, .bool false, .slice none 0 0, .bool false, .slice none 0 0]) (l := [.bool nr6, .slice A7 n8 c9, .bool nr10, .slice A11 n12 c13, .bool nr14, .slice A15 n16 c17]) us136 sz69 rfl rfl zc69 (by kernel_rfl) ⟨rfl, (T rfl rfl), ⟨rfl, (T rfl rfl), ⟨rfl, (T rfl rfl), trivial⟩⟩⟩ rfl ?_)
      intro b60 w61 n62
      have N63 : w.heap.size ≤ b60 := n62.eq ▸ E57.size
      have : b24 < b60 := n62.eq ▸ lt_of_blk H58
      have E64 := below_ext E57 E57.size n62.ext
      have H65 := (n62.ext.blk H58)
      refine ⟨.inr H65, ?_⟩
      have h66 := ((((h44.ext e46).ext e51).ext e56).ext n62.ext)
      have h67 := (((h49.ext e51).ext e56).ext n62.ext)
      have h68 := ((h54.ext e56).ext n62.ext)
      refine aw_one 25 rfl (by kernel_rfl) (.yes (d := 23) rfl rfl (congrArg Value.bool (decide_eq_true hb59))) (oe_callf (vs := [.slice (some ⟨b60, 0, none⟩) 3 3]) co75 (ar1 (T rfl rfl)) (gcd3_ok h66 h67 h68 (by first | decide | omega) (by first | decide | omega) (by first | decide | omega) n62.blk) ?_)
      rintro _ w74 ⟨nr69, A70, n71, c72, rfl, e75, h73⟩
      have E76 := below_ext E64 E64.size e75
      have lh73 := Num.len (by decide) h73
      have H77 := (e75.blk H65)
      refine ⟨.inr H77, ?_⟩
      refine aw_one 26 rfl (by kernel_rfl) (.yes (d := 23) rfl rfl (congrArg Value.bool (decide_eq_true hb59))) (oe_callf (vs := [.int .i64 1]) co77 (ar1 C) (whole_ok  (by omega)) ?_)
      rintro _ w83 ⟨nr78, A79, n80, c81, rfl, e84, h82⟩
      have E85 := below_ext E76 E76.size e84
      have lh82 := Num.len (by decide) h82
      have H86 := (e84.blk H77)
      refine ⟨.inr H86, ?_⟩
      have h87 := (h73.ext e84)
      refine aw_one 27 rfl (by kernel_rfl) (.yes (d := 23) rfl rfl (congrArg Value.bool (decide_eq_true hb59))) (oe_callf (vs := [.agg #[.bool nr69, .slice A70 n71 c72], .agg #[.bool nr78, .slice A79 n80 c81]]) co76 (ar2 (T rfl rfl) (T rfl rfl)) (ncmp_ok h87 h82 (by first | decide | omega) (by first | decide | omega)) ?_)
      rintro _ w88 ⟨rfl, e89⟩
      have E90 := below_ext E85 E85.size e89
      have H91 := (e89.blk H86)
      refine ⟨.inr H91, ?_⟩
      refine aw_pure 28 (.bool (decide ((sgnI ((gI3 x y u) - 1)) = 0))) rfl (by kernel_rfl) (.yes (d := 23) rfl rfl (congrArg Value.bool (decide_eq_true hb59))) H91 (fun _ => dv_eql (a := sgnI ((gI3 x y u) - 1)) (b := 0) (T rfl rfl) C) ?_
      refine aw_pure 29 (.bool (decide ((sgnI ((gI3 x y u) - 1)) = 0))) rfl (by kernel_rfl) .none H91 (fun _ => dv_pick_t (T rfl (congrArg Value.bool (decide_eq_true hb59))) (T rfl rfl)) ?_
      refine aw_last 30 (.bool (decide ((sgnI ((gI3 x y u) - 1)) = 0))) rfl (by kernel_rfl) .none (fun _ => dv_assign (T rfl rfl)) ?_
      refine aw_done (by kernel_rfl) ?_
      refine rk_ret Try.func32 (v := .bool (decide ((sgnI ((gI3 x y u) - 1)) = 0))) (res1 Try.results32 (rv_tmp rfl rfl)) ⟨_, rfl, ?_⟩
      have h1 : sm3 x y u := by first | assumption | exact sm3_iff.2 (mx3.1 ‹_›)
      have h2 : 0 < u := sgnI_gt.1 (by assumption)
      have h3 := @sgnI_zero (gI3 x y u - 1)
      exact ⟨(vb ⟨fun hh => ⟨h2, h1, by have := h3.1 hh; omega⟩, fun hh => h3.2 (by have := hh.2.2; omega)⟩), E90⟩
    · -- TF
      refine aw_no 18 rfl (by kernel_rfl) (d := 23) rfl rfl (congrArg Value.bool (decide_eq_false hb59)) H58 ?_
      refine aw_no 19 rfl (by kernel_rfl) (d := 23) rfl rfl (congrArg Value.bool (decide_eq_false hb59)) H58 ?_
      refine aw_no 20 rfl (by kernel_rfl) (d := 23) rfl rfl (congrArg Value.bool (decide_eq_false hb59)) H58 ?_
      refine aw_no 21 rfl (by kernel_rfl) (d := 23) rfl rfl (congrArg Value.bool (decide_eq_false hb59)) H58 ?_
      refine aw_no 22 rfl (by kernel_rfl) (d := 23) rfl rfl (congrArg Value.bool (decide_eq_false hb59)) H58 ?_
      refine aw_no 23 rfl (by kernel_rfl) (d := 23) rfl rfl (congrArg Value.bool (decide_eq_false hb59)) H58 ?_
      refine aw_no 24 rfl (by kernel_rfl) (d := 23) rfl rfl (congrArg Value.bool (decide_eq_false hb59)) H58 ?_
      refine aw_no 25 rfl (by kernel_rfl) (d := 23) rfl rfl (congrArg Value.bool (decide_eq_false hb59)) H58 ?_
      refine aw_no 26 rfl (by kernel_rfl) (d := 23) rfl rfl (congrArg Value.bool (decide_eq_false hb59)) H58 ?_
      refine aw_no 27 rfl (by kernel_rfl) (d := 23) rfl rfl (congrArg Value.bool (decide_eq_false hb59)) H58 ?_
      refine aw_no 28 rfl (by kernel_rfl) (d := 23) rfl rfl (congrArg Value.bool (decide_eq_false hb59)) H58 ?_
      refine aw_pure 29 (.bool false) rfl (by kernel_rfl) .none H58 (fun _ => dv_pick_f (T rfl (congrArg Value.bool (decide_eq_false hb59))) C) ?_
      refine aw_last 30 (.bool false) rfl (by kernel_rfl) .none (fun _ => dv_assign (T rfl rfl)) ?_
      refine aw_done (by kernel_rfl) ?_
      refine rk_ret Try.func32 (v := .bool false) (res1 Try.results32 (rv_tmp rfl rfl)) ⟨_, rfl, ?_⟩
      exact ⟨(vf (by intro hh; have h1 := sgnI_gt.2 hh.1; have h2 := hh.2.1; first | (exact absurd h2 (by assumption)) | (exact absurd (mx3.2 (sm3_iff.1 h2)) (by assumption)) | contradiction | omega)), E57⟩
  · -- F
    refine aw_no 5 rfl (by kernel_rfl) (d := 10) rfl rfl (congrArg Value.bool (decide_eq_false hb43)) H42 ?_
    refine aw_no 6 rfl (by kernel_rfl) (d := 10) rfl rfl (congrArg Value.bool (decide_eq_false hb43)) H42 ?_
    refine aw_no 7 rfl (by kernel_rfl) (d := 10) rfl rfl (congrArg Value.bool (decide_eq_false hb43)) H42 ?_
    refine aw_no 8 rfl (by kernel_rfl) (d := 10) rfl rfl (congrArg Value.bool (decide_eq_false hb43)) H42 ?_
    refine aw_no 9 rfl (by kernel_rfl) (d := 10) rfl rfl (congrArg Value.bool (decide_eq_false hb43)) H42 ?_
    refine aw_no 10 rfl (by kernel_rfl) (d := 10) rfl rfl (congrArg Value.bool (decide_eq_false hb43)) H42 ?_
    refine aw_no 11 rfl (by kernel_rfl) (d := 10) rfl rfl (congrArg Value.bool (decide_eq_false hb43)) H42 ?_
    refine aw_no 12 rfl (by kernel_rfl) (d := 10) rfl rfl (congrArg Value.bool (decide_eq_false hb43)) H42 ?_
    refine aw_no 13 rfl (by kernel_rfl) (d := 10) rfl rfl (congrArg Value.bool (decide_eq_false hb43)) H42 ?_
    refine aw_no 14 rfl (by kernel_rfl) (d := 10) rfl rfl (congrArg Value.bool (decide_eq_false hb43)) H42 ?_
    refine aw_no 15 rfl (by kernel_rfl) (d := 10) rfl rfl (congrArg Value.bool (decide_eq_false hb43)) H42 ?_
    refine aw_pure 16 (.bool false) rfl (by kernel_rfl) .none H42 (fun _ => dv_pick_f (T rfl (congrArg Value.bool (decide_eq_false hb43))) C) ?_
    refine aw_pure 17 (.bool false) rfl (by kernel_rfl) .none H42 (fun _ => dv_move (T rfl rfl)) ?_
    refine aw_no 18 rfl (by kernel_rfl) (d := 23) rfl rfl (rfl) H42 ?_
    refine aw_no 19 rfl (by kernel_rfl) (d := 23) rfl rfl (rfl) H42 ?_
    refine aw_no 20 rfl (by kernel_rfl) (d := 23) rfl rfl (rfl) H42 ?_
    refine aw_no 21 rfl (by kernel_rfl) (d := 23) rfl rfl (rfl) H42 ?_
    refine aw_no 22 rfl (by kernel_rfl) (d := 23) rfl rfl (rfl) H42 ?_
    refine aw_no 23 rfl (by kernel_rfl) (d := 23) rfl rfl (rfl) H42 ?_
    refine aw_no 24 rfl (by kernel_rfl) (d := 23) rfl rfl (rfl) H42 ?_
    refine aw_no 25 rfl (by kernel_rfl) (d := 23) rfl rfl (rfl) H42 ?_
    refine aw_no 26 rfl (by kernel_rfl) (d := 23) rfl rfl (rfl) H42 ?_
    refine aw_no 27 rfl (by kernel_rfl) (d := 23) rfl rfl (rfl) H42 ?_
    refine aw_no 28 rfl (by kernel_rfl) (d := 23) rfl rfl (rfl) H42 ?_
    refine aw_pure 29 (.bool false) rfl (by kernel_rfl) .none H42 (fun _ => dv_pick_f (T rfl rfl) C) ?_
    refine aw_last 30 (.bool false) rfl (by kernel_rfl) .none (fun _ => dv_assign (T rfl rfl)) ?_
    refine aw_done (by kernel_rfl) ?_
    refine rk_ret Try.func32 (v := .bool false) (res1 Try.results32 (rv_tmp rfl rfl)) ⟨_, rfl, ?_⟩
    exact ⟨(vf (by intro hh; have h1 := sgnI_gt.2 hh.1; have h2 := hh.2.1; first | (exact absurd h2 (by assumption)) | (exact absurd (mx3.2 (sm3_iff.1 h2)) (by assumption)) | contradiction | omega)), E41⟩

set_option maxHeartbeats 1000000 in
theorem rev_ok {w : World} {A : Option Addr} {n c base : Nat} {L : List Int} (hO : Ow w base 5 .u8 A c L) (hl : L.length = n) (hn : 0 < n) (hN : n ≤ 1000000000) : Ct Try.prog 120 [.slice A n c] w fun v w1 => v = .tuple #[] ∧ Below base w w1 ∧ Ow w1 base 5 .u8 A c L.reverse := by
  refine ct_run (n := 28) Try.func120 rfl Try.ntmps120 rfl ?_
  have E0 : Below base w w := Below.refl _ _
  have hb0 := hO.2
  refine rk_seq ?_
  refine rk_reg ?_
  refine lw_v (.slice A n c) (dv_move (T rfl rfl)) ?_
  refine lw_v (.int .i64 ((n : Int))) (dv_len (ad := A) (l := n) (c := c) us126 (T rfl rfl)) ?_
  refine lw_v (.int .i64 (((n : Int)) - 1)) (dv_sub (a := (n : Int)) (b := 1) (z := ((n : Int)) - 1) (T rfl rfl) C (wr_i64 (by omega) (by omega))) ?_
  refine lw_v (.int .i64 0) (dv_assign C) ?_
  refine lw_v (.int .i64 (((n : Int)) - 1)) (dv_assign (T rfl rfl)) ?_
  refine lw_nil ?_
  refine rk_block ?_
  refine rk_loop (fun dm_ fr wl => ∃ (i j : Nat) (M : List Int), dm_ = n - i ∧ fr 0 = .slice A n c ∧ fr 2 = .int .i64 ((i : Int)) ∧ fr 3 = .int .i64 ((j : Int)) ∧ Below base w wl ∧ Ow wl base 5 .u8 A c M ∧ (rvI L i M) ∧ (M.length = n) ∧ (i + j + 1 = n)) (n - 0) ⟨0, (n - 1), L, rfl, rfl, (vi (by omega)), (vi (by omega)), E0, hO, (rv0 L), (by omega), (by omega)⟩ ?_
  intro d5 fr4 w1 hI2 ih3
  obtain ⟨i, j, M, hd11, f6, f7, f8, E9, h10, hrv, hM, hij⟩ := hI2
  refine rk_seq ?_
  refine rk_seq ?_
  refine rk_reg ?_
  refine lw_v (.int .i64 ((i : Int))) (dv_move (T rfl f7)) ?_
  refine lw_v (.int .i64 ((j : Int))) (dv_move (T rfl f8)) ?_
  refine lw_v (.bool (decide (((i : Int)) < ((j : Int))))) (dv_lss (a := (i : Int)) (b := (j : Int)) (T rfl rfl) (T rfl rfl)) ?_
  refine lw_nil ?_
  by_cases hb12 : ((i : Int)) < ((j : Int))
  · -- LT
    refine rk_ct (T rfl (congrArg Value.bool (decide_eq_true hb12))) ?_
    refine rk_skip ?_
    refine rk_seq ?_
    refine rk_block ?_
    obtain ⟨g13, o14, rfl⟩ := Wd.at h10.wd (by first | omega | (simp; omega))
    refine rk_st2 13 15 [.slice (some ⟨g13, o14, none⟩) n c, .int .i64 ((i : Int)), .slice (some ⟨g13, o14, none⟩) n c, .int .i64 ((j : Int)), .slice (some ⟨g13, o14, none⟩) n c, .int .i64 ((j : Int)), .pointer (some ⟨g13, o14 + j, none⟩), .int .u8 (M.getD j 0), .slice (some ⟨g13, o14, none⟩) n c, .int .i64 ((i : Int)), .pointer (some ⟨g13, o14 + i, none⟩), .int .u8 (M.getD i 0), .pointer (some ⟨g13, o14 + i, none⟩), undef, .pointer (some ⟨g13, o14 + j, none⟩), undef] (fun wk => ∃ wd, Drew w1 wd ∧ Below base wd wk ∧ Ow wk base 5 .u8 (some ⟨g13, o14, none⟩) c (M.set i (M.getD j 0))) (fun wk => ∃ wd, Drew w1 wd ∧ Below base wd wk ∧ Ow wk base 5 .u8 (some ⟨g13, o14, none⟩) c (((M.set i (M.getD j 0))).set j (M.getD i 0))) mo (by kernel_rfl) ?_ ?_
    · intro w15 d16
      have E17 := below_ext E9 (Nat.le_trans hb0 E9.size) d16.ext
      refine ⟨?_, ?_, ?_, ?_, ?_, ?_, ?_, ?_, ?_, ?_, ?_, ?_, ?_, ?_, ?_, ?_, trivial⟩
      · intro fr18 w19 hB20 hM21 hF22 hD23
        obtain rfl := hB20 (.inr (by kernel_rfl))
        exact DV.oe (dv_move (T rfl ((hF22 0 (by kernel_rfl)).trans f6))) (by rw [if_neg (by decide), if_neg (by decide)]; exact ⟨rfl, rfl⟩)
      · intro fr24 w25 hB26 hM27 hF28 hD29
        obtain rfl := hB26 (.inr (by kernel_rfl))
        exact DV.oe (dv_move (T rfl ((hF28 2 (by kernel_rfl)).trans f7))) (by rw [if_neg (by decide), if_neg (by decide)]; exact ⟨rfl, rfl⟩)
      · intro fr30 w31 hB32 hM33 hF34 hD35
        exact DV.oe (dv_move (T rfl ((hF34 0 (by kernel_rfl)).trans f6))) (by rw [if_neg (by decide), if_neg (by decide)]; exact ⟨rfl, rfl⟩)
      · intro fr36 w37 hB38 hM39 hF40 hD41
        exact DV.oe (dv_move (T rfl ((hF40 3 (by kernel_rfl)).trans f8))) (by rw [if_neg (by decide), if_neg (by decide)]; exact ⟨rfl, rfl⟩)
      · intro fr42 w43 hB44 hM45 hF46 hD47
        obtain rfl := hB44 (.inr (by kernel_rfl))
        exact DV.oe (dv_move (T rfl ((hF46 0 (by kernel_rfl)).trans f6))) (by rw [if_neg (by decide), if_neg (by decide)]; exact ⟨rfl, rfl⟩)
      · intro fr48 w49 hB50 hM51 hF52 hD53
        obtain rfl := hB50 (.inr (by kernel_rfl))
        exact DV.oe (dv_move (T rfl ((hF52 3 (by kernel_rfl)).trans f8))) (by rw [if_neg (by decide), if_neg (by decide)]; exact ⟨rfl, rfl⟩)
      · intro fr54 w55 hB56 hM57 hF58 hD59
        obtain rfl := hB56 (.inr (by kernel_rfl))
        have hv60 : fr54 18 = .slice (some ⟨g13, o14, none⟩) n c := hD59 4 _ (by decide) rfl (by kernel_rfl)
        have hv61 : fr54 19 = .int .i64 ((j : Int)) := hD59 5 _ (by decide) rfl (by kernel_rfl)
        exact DV.oe (dv_indexW (g := g13) (o := o14) (l := n) (c := c) (i := j) (j := (j : Int)) us126 sz5 (T rfl hv60) (T rfl hv61) (by omega) (by first | omega | (simp; omega))) (by rw [if_neg (by decide), if_neg (by decide)]; exact ⟨rfl, rfl⟩)
      · intro fr62 w63 hB64 hM65 hF66 hD67
        obtain rfl := hB64 (.inr (by kernel_rfl))
        have hv68 : fr62 20 = .pointer (some ⟨g13, o14 + j, none⟩) := hD67 6 _ (by decide) rfl (by kernel_rfl)
        have h69 := (h10.ext d16.ext)
        exact DV.oe (dv_load agt5 (T rfl hv68) (Wd.cell h69.wd (by first | omega | (simp; omega)))) (by rw [if_neg (by decide), if_neg (by decide)]; exact ⟨rfl, rfl⟩)
      · intro fr70 w71 hB72 hM73 hF74 hD75
        exact DV.oe (dv_move (T rfl ((hF74 0 (by kernel_rfl)).trans f6))) (by rw [if_neg (by decide), if_neg (by decide)]; exact ⟨rfl, rfl⟩)
      · intro fr76 w77 hB78 hM79 hF80 hD81
        exact DV.oe (dv_move (T rfl ((hF80 2 (by kernel_rfl)).trans f7))) (by rw [if_neg (by decide), if_neg (by decide)]; exact ⟨rfl, rfl⟩)
      · intro fr82 w83 hB84 hM85 hF86 hD87
        have hv88 : fr82 22 = .slice (some ⟨g13, o14, none⟩) n c := hD87 8 _ (by decide) rfl (by kernel_rfl)
        have hv89 : fr82 23 = .int .i64 ((i : Int)) := hD87 9 _ (by decide) rfl (by kernel_rfl)
        exact DV.oe (dv_indexW (g := g13) (o := o14) (l := n) (c := c) (i := i) (j := (i : Int)) us126 sz5 (T rfl hv88) (T rfl hv89) (by omega) (by first | omega | (simp; omega))) (by rw [if_neg (by decide), if_neg (by decide)]; exact ⟨rfl, rfl⟩)
      · intro fr90 w91 hB92 hM93 hF94 hD95
        obtain rfl := hB92 (.inr (by kernel_rfl))
        have hv96 : fr90 24 = .pointer (some ⟨g13, o14 + i, none⟩) := hD95 10 _ (by decide) rfl (by kernel_rfl)
        have h97 := (h10.ext d16.ext)
        exact DV.oe (dv_load agt5 (T rfl hv96) (Wd.cell h97.wd (by first | omega | (simp; omega)))) (by rw [if_neg (by decide), if_neg (by decide)]; exact ⟨rfl, rfl⟩)
      · intro fr98 w99 hB100 hM101 hF102 hD103
        obtain rfl := hB100 (.inr (by kernel_rfl))
        have hv104 : fr98 14 = .slice (some ⟨g13, o14, none⟩) n c := hD103 0 _ (by decide) rfl (by kernel_rfl)
        have hv105 : fr98 15 = .int .i64 ((i : Int)) := hD103 1 _ (by decide) rfl (by kernel_rfl)
        exact DV.oe (dv_indexW (g := g13) (o := o14) (l := n) (c := c) (i := i) (j := (i : Int)) us126 sz5 (T rfl hv104) (T rfl hv105) (by omega) (by first | omega | (simp; omega))) (by rw [if_neg (by decide), if_neg (by decide)]; exact ⟨rfl, rfl⟩)
      · intro fr106 w107 hB108 hM109 hF110 hD111
        obtain rfl := hB108 (.inl rfl)
        have hv112 : fr106 21 = .int .u8 (M.getD j 0) := hD111 7 _ (by decide) rfl (by kernel_rfl)
        have hv113 : fr106 26 = .pointer (some ⟨g13, o14 + i, none⟩) := hD111 12 _ (by decide) rfl (by kernel_rfl)
        have h114 := (h10.ext d16.ext)
        refine id (oe_storeOw (base := base) (L := M) (g := g13) (o := o14) (i := i) (z := M.getD j 0) sz5 (T rfl hv113) (T rfl hv112) h114 (by first | omega | (simp; omega)) ?_)
        intro w115 hO116 x117
        have E118 := below_bl E17 (Nat.le_refl _) x117
        rw [if_pos rfl]
        exact ⟨_, d16, x117, hO116⟩
      · intro fr119 w120 hB121 hM122 hF123 hD124
        have hv125 : fr119 16 = .slice (some ⟨g13, o14, none⟩) n c := hD124 2 _ (by decide) rfl (by kernel_rfl)
        have hv126 : fr119 17 = .int .i64 ((j : Int)) := hD124 3 _ (by decide) rfl (by kernel_rfl)
        exact DV.oe (dv_indexW (g := g13) (o := o14) (l := n) (c := c) (i := j) (j := (j : Int)) us126 sz5 (T rfl hv125) (T rfl hv126) (by omega) (by first | omega | (simp; omega))) (by rw [if_neg (by decide), if_neg (by decide)]; exact ⟨rfl, rfl⟩)
      · intro fr127 w128 hB129 hM130 hF131 hD132
        obtain ⟨w133, d134, x135, hO136⟩ := hM130 rfl
        have E137 := below_ext E9 (Nat.le_trans hb0 E9.size) d134.ext
        have E138 := below_bl E137 (Nat.le_refl _) x135
        have hv139 : fr127 25 = .int .u8 (M.getD i 0) := hD132 11 _ (by decide) rfl (by kernel_rfl)
        have hv140 : fr127 27 = .pointer (some ⟨g13, o14 + j, none⟩) := hD132 14 _ (by decide) rfl (by kernel_rfl)
        refine id (oe_storeOw (base := base) (L := (M.set i (M.getD j 0))) (g := g13) (o := o14) (i := j) (z := M.getD i 0) sz5 (T rfl hv140) (T rfl hv139) hO136 (by first | omega | (simp; omega)) ?_)
        intro w141 hO142 x143
        have E144 := below_bl E138 (Nat.le_refl _) x143
        rw [if_neg (by decide), if_pos rfl]
        exact ⟨_, d134, x135.trans x143, hO142⟩
    intro fr145 w146 hK147 hF148 hP149
    obtain ⟨w150, d151, x152, hO153⟩ := hK147
    have E154 := below_ext E9 (Nat.le_trans hb0 E9.size) d151.ext
    have E155 := below_bl E154 (Nat.le_refl _) x152
    obtain ⟨p156, p157, p158, p159, p160, p161, p162, p163, p164, p165, p166, p167, p168, _, p169, _, _⟩ := hP149
    have hv170 : fr145 14 = .slice (some ⟨g13, o14, none⟩) n c := p156.resolve_left (by decide)
    have hv171 : fr145 15 = .int .i64 ((i : Int)) := p157.resolve_left (by decide)
    have hv172 : fr145 16 = .slice (some ⟨g13, o14, none⟩) n c := p158.resolve_left (by decide)
    have hv173 : fr145 17 = .int .i64 ((j : Int)) := p159.resolve_left (by decide)
    have hv174 : fr145 18 = .slice (some ⟨g13, o14, none⟩) n c := p160.resolve_left (by decide)
    have hv175 : fr145 19 = .int .i64 ((j : Int)) := p161.resolve_left (by decide)
    have hv176 : fr145 20 = .pointer (some ⟨g13, o14 + j, none⟩) := p162.resolve_left (by decide)
    have hv177 : fr145 21 = .int .u8 (M.getD j 0) := p163.resolve_left (by decide)
    have hv178 : fr145 22 = .slice (some ⟨g13, o14, none⟩) n c := p164.resolve_left (by decide)
    have hv179 : fr145 23 = .int .i64 ((i : Int)) := p165.resolve_left (by decide)
    have hv180 : fr145 24 = .pointer (some ⟨g13, o14 + i, none⟩) := p166.resolve_left (by decide)
    have hv181 : fr145 25 = .int .u8 (M.getD i 0) := p167.resolve_left (by decide)
    have hv182 : fr145 26 = .pointer (some ⟨g13, o14 + i, none⟩) := p168.resolve_left (by decide)
    have hv183 : fr145 27 = .pointer (some ⟨g13, o14 + j, none⟩) := p169.resolve_left (by decide)
    refine rk_inBlock ?_
    refine rk_reg ?_
    refine lw_v (.int .i64 ((i : Int))) (dv_move (T rfl ((hF148 2 rfl).trans f7))) ?_
    refine lw_v (.int .i64 (((i : Int)) + 1)) (dv_add (a := (i : Int)) (b := 1) (z := ((i : Int)) + 1) (T rfl rfl) C (wr_i64 (by omega) (by omega))) ?_
    refine lw_v (.int .i64 ((j : Int))) (dv_move (T rfl ((hF148 3 rfl).trans f8))) ?_
    refine lw_v (.int .i64 (((j : Int)) - 1)) (dv_sub (a := (j : Int)) (b := 1) (z := ((j : Int)) - 1) (T rfl rfl) C (wr_i64 (by omega) (by omega))) ?_
    refine lw_v (.int .i64 (((i : Int)) + 1)) (dv_assign (T rfl rfl)) ?_
    refine lw_v (.int .i64 (((j : Int)) - 1)) (dv_assign (T rfl rfl)) ?_
    refine lw_nil ?_
    exact ih3 (n - ((i + 1))) _ _ (by rw [hd11]; omega) ⟨(i + 1), (j - 1), (((M.set i (M.getD j 0))).set j (M.getD i 0)), rfl, ((hF148 0 rfl).trans f6), (vi (by omega)), (vi (by omega)), E155, hO153, (rv_step hrv (by omega) (by omega)), (by simp [hM]), (by omega)⟩
  · -- LF
    refine rk_cf (T rfl (congrArg Value.bool (decide_eq_false hb12))) ?_
    refine rk_exit rfl ?_
    refine rk_end Try.func120 (v := .tuple #[]) (res0 Try.results120) ⟨_, rfl, ?_⟩
    have hz := rv_done hrv (by omega)
    exact ⟨rfl, E9, by rw [← hz]; exact h10⟩

set_option maxHeartbeats 1000000 in
theorem ntext_ok {w : World} {na : Bool} {Aa : Option Addr} {la ca : Nat} {x : Int} {sx : Nat} (ha : Num 64 22 .u64 w na Aa la ca x sx) (hs : sx ≤ 100000) : Ct Try.prog 102 [.agg #[.bool na, .slice Aa la ca]] w fun v w1 => v = .string (bOf (txtL x)) ∧ Ext w w1 := by
  refine ct_run (n := 49) Try.func102 rfl Try.ntmps102 rfl ?_
  have E0 : Below w.heap.size w w := Below.refl _ _
  have lha := Num.len (by decide) ha
  have hDs := dg_bits ha.lt
  refine rk_seq ?_
  refine rk_reg ?_
  refine lw_e (oe_box (v := .agg #[.bool na, .slice Aa la ca]) (cs := #[.bool na, .slice Aa la ca]) (T rfl rfl) rfl ?_)
  intro b1 w2 n3
  have N4 : w.heap.size ≤ b1 := n3.eq ▸ E0.size
  have E5 := below_ext E0 E0.size n3.ext
  refine lw_v (.string (bOf [])) (dv_assign C) ?_
  refine lw_nil ?_
  refine rk_seq ?_
  refine rk_reg ?_
  refine lw_e (oe_buildSlice0 us126 sz5 ?_)
  intro b6 w7 n8
  have N9 : w.heap.size ≤ b6 := n8.eq ▸ E5.size
  have : b1 < b6 := n8.eq ▸ lt_of_blk n3.blk
  have E10 := below_ext E5 E5.size n8.ext
  have hO11 := Ow.made (T := 5) (k := .u8) (z := .int .u8 0) (c := 0) n8 (by decide)
  refine lw_v (.slice (some ⟨b6, 0, none⟩) (([] : List Int).length) 0) (dv_assign (T rfl rfl)) ?_
  refine lw_nil ?_
  refine rk_seq ?_
  refine rk_seq ?_
  refine rk_reg ?_
  refine lw_v (.pointer (some ⟨b1, 1, none⟩)) (dv_fieldAddr (a := ⟨b1, 0, none⟩) (a' := ⟨b1, 1, none⟩) fo69_1 (T rfl rfl) rfl) ?_
  have H12 := (n8.ext.blk n3.blk)
  refine lw_v (.slice Aa la ca) (dv_load1 (b := b1) (o := 1) agt67 (T rfl rfl) H12 rfl) ?_
  refine lw_v (.slice Aa la ca) (dv_assign (T rfl rfl)) ?_
  refine lw_nil ?_
  refine rk_block ?_
  have h13 := ((ha.ext n3.ext).ext n8.ext)
  refine rk_loop (fun dm_ fr wl => ∃ (Ax : Option Addr) (lx cx : Nat) (X : Int) (L : List Int) (Ad : Option Addr) (cp : Nat), dm_ = X.toNat ∧ fr 1 = .pointer (some ⟨b1, 0, none⟩) ∧ fr 2 = .string (bOf []) ∧ fr 3 = .slice Ad (L.length) cp ∧ fr 4 = .slice Ax lx cx ∧ Below w.heap.size w wl ∧ wl.heap[b1]? = some (.cells #[.bool na, .slice Aa la ca] 69) ∧ Wc 64 22 .u64 wl Ax lx cx X ∧ Ow wl b6 5 .u8 Ad cp L ∧ (L ++ dg X.toNat = dg x.natAbs) ∧ (X < 2 ^ sx)) ((((x.natAbs : Int))).toNat) ⟨Aa, la, ca, ((x.natAbs : Int)), ([] : List Int), (some ⟨b6, 0, none⟩), 0, rfl, rfl, rfl, rfl, rfl, E10, H12, h13.wc, hO11, (by simp), h13.ltI⟩ ?_
  intro d18 fr17 w14 hI15 ih16
  obtain ⟨Ax, lx, cx, X, L, Ad, cp, hd27, f19, f20, f21, f22, E23, H24, h25, h26, hL, hXs⟩ := hI15
  have hXp := h25.pos
  have hXn := h25.nonneg
  have hlx := Wc.len (by decide) h25 hXs
  have hLD := congrArg List.length hL
  simp only [List.length_append] at hLD
  refine rk_seq ?_
  refine rk_seq ?_
  refine rk_reg ?_
  refine lw_v (.slice Ax lx cx) (dv_move (T rfl f22)) ?_
  refine lw_v (.int .i64 ((lx : Int))) (dv_len (ad := Ax) (l := lx) (c := cx) us67 (T rfl rfl)) ?_
  refine lw_v (.bool (decide (0 < ((lx : Int))))) (dv_gtr (a := (lx : Int)) (b := 0) (T rfl rfl) C) ?_
  refine lw_nil ?_
  by_cases hb28 : 0 < ((lx : Int))
  · -- LT
    refine rk_ct (T rfl (congrArg Value.bool (decide_eq_true hb28))) ?_
    refine rk_skip ?_
    refine rk_block ?_
    refine rk_seq ?_
    refine rk_reg ?_
    refine lw_v (.slice Ax lx cx) (dv_move (T rfl f22)) ?_
    refine lw_e (oe_buildSlice (pv := [(0, .int .u64 10)]) (init := [.int .u64 0]) (l := [.int .u64 10]) us67 sz22 rfl rfl zc22 (by kernel_rfl) ⟨rfl, C, trivial⟩ rfl ?_)
    intro b29 w30 n31
    have N32 : w.heap.size ≤ b29 := n31.eq ▸ E23.size
    have : b1 < b29 := n31.eq ▸ lt_of_blk H24
    have E33 := below_ext E23 E23.size n31.ext
    have h34 := (h25.ext n31.ext)
    refine lw_e (oe_callf (vs := [.slice Ax lx cx, .slice (some ⟨b29, 0, none⟩) 1 1]) co109 (ar2 (T rfl rfl) (T rfl rfl)) (divWords_ok h34 (Wc.lit1 (m := 64) n31.blk (by decide)) (by omega) (by first | omega | (simp; done) | (simp; omega)) (by first | omega | (simp; done) | (simp; omega))) ?_)
    rintro _ w43 ⟨A35, n36, c37, A38, n39, c40, rfl, e44, h41, h42⟩
    have E45 := below_ext E33 E33.size e44
    have lh41 := Wc.len (by decide) h41 (div_sz (Wc.nonneg h34) (by omega) hXs)
    have lh42 := Wc.len (by decide) h42 (mod_sz (by omega) (show (10 : Int) < 2 ^ 4 by decide))
    refine lw_v (.tuple #[.slice A35 n36 c37, .slice A38 n39 c40]) (dv_move (T rfl rfl)) ?_
    refine lw_v (.slice A35 n36 c37) (dv_extract (vs := #[.slice A35 n36 c37, .slice A38 n39 c40]) (T rfl rfl) rfl) ?_
    refine lw_v (.slice A38 n39 c40) (dv_extract (vs := #[.slice A35 n36 c37, .slice A38 n39 c40]) (T rfl rfl) rfl) ?_
    refine lw_v (.slice A35 n36 c37) (dv_assign (T rfl rfl)) ?_
    refine lw_v (.slice A38 n39 c40) (dv_assign (T rfl rfl)) ?_
    refine lw_nil ?_
    refine rk_seq ?_
    refine rk_reg ?_
    refine lw_v (.int .u8 48) (dv_assign C) ?_
    refine lw_nil ?_
    refine rk_seq ?_
    refine rk_seq ?_
    refine rk_reg ?_
    refine lw_v (.slice A38 n39 c40) (dv_move (T rfl rfl)) ?_
    refine lw_v (.int .i64 ((n39 : Int))) (dv_len (ad := A38) (l := n39) (c := c40) us67 (T rfl rfl)) ?_
    refine lw_v (.bool (decide (0 < ((n39 : Int))))) (dv_gtr (a := (n39 : Int)) (b := 0) (T rfl rfl) C) ?_
    refine lw_nil ?_
    by_cases hb46 : 0 < ((n39 : Int))
    · -- LTT
      refine rk_ct (T rfl (congrArg Value.bool (decide_eq_true hb46))) ?_
      obtain ⟨ys, hyl, hyc, hyw, oy, hyk, hyv⟩ := id h42
      have hy1 : ys.getD 0 0 = X % 10 := one_word oy (by omega) hyv (by omega)
      refine rk_reg ?_
      refine lw_v (.int .u8 48) (dv_move (T rfl rfl)) ?_
      refine lw_v (.slice A38 n39 c40) (dv_move (T rfl rfl)) ?_
      obtain ⟨g47, o48, rfl⟩ := Wd.at hyw (by first | omega | (simp; done) | (simp; omega))
      refine lw_v (.pointer (some ⟨g47, o48 + 0, none⟩)) (dv_indexW (g := g47) (o := o48) (l := n39) (c := c40) (i := 0) (j := 0) us67 sz22 (T rfl rfl) C (by omega) (by first | omega | (simp; done) | (simp; omega))) ?_
      refine lw_v (.int .u64 (ys.getD 0 0)) (dv_load agt22 (T rfl rfl) (Wd.cell hyw (by first | omega | (simp; done) | (simp; omega)))) ?_
      refine lw_v (.int .u8 ((ys.getD 0 0) % 256)) (dv_conv (a := ys.getD 0 0) (z := (ys.getD 0 0) % 256) ui22 ui5 (T rfl rfl) (wr_u8 _)) ?_
      refine lw_v (.int .u8 (48 + ((ys.getD 0 0) % 256))) (dv_add (a := 48) (b := (ys.getD 0 0) % 256) (z := 48 + ((ys.getD 0 0) % 256)) (T rfl rfl) (T rfl rfl) (wn_u8 (by omega) (by omega))) ?_
      refine lw_v (.int .u8 (48 + ((ys.getD 0 0) % 256))) (dv_assign (T rfl rfl)) ?_
      refine lw_nil ?_
      refine rk_reg ?_
      refine lw_v (.slice Ad (L.length) cp) (dv_move (T rfl f21)) ?_
      refine lw_v (.int .u8 (48 + ((ys.getD 0 0) % 256))) (dv_move (T rfl rfl)) ?_
      refine lw_e (oe_buildSlice (pv := [(0, .int .u8 (48 + ((ys.getD 0 0) % 256)))]) (init := [.int .u8 0]) (l := [.int .u8 (48 + ((ys.getD 0 0) % 256))]) us126 sz5 rfl rfl zc5 (by kernel_rfl) ⟨rfl, (T rfl rfl), trivial⟩ rfl ?_)
      intro b49 w50 n51
      have N52 : w.heap.size ≤ b49 := n51.eq ▸ E45.size
      have H53 := (e44.blk n31.blk)
      have : b29 < b49 := n51.eq ▸ lt_of_blk H53
      have E54 := below_ext E45 E45.size n51.ext
      have h55 := (((h26.ext n31.ext).ext e44).ext n51.ext)
      refine lw_e (oe_appendT (base := b6) (L := L) (M := [48 + ((ys.getD 0 0) % 256)]) (m := 1) us126 in5 (T rfl rfl) (T rfl rfl) h55 (Wd.ownW (xs := [48 + ((ys.getD 0 0) % 256)]) n51.blk) rfl (by first | omega | (simp; done) | (simp; omega)) (by first | omega | (simp; done) | (simp; omega)) ?_)
      intro Ad57 c58 w59 hO60 x61 bt56
      have E62 := below_bl E54 N9 x61
      refine lw_v (.slice A35 n36 c37) (dv_move (T rfl rfl)) ?_
      refine lw_v (.slice Ad57 ((L ++ [48 + ((ys.getD 0 0) % 256)]).length) c58) (dv_assign (T rfl rfl)) ?_
      refine lw_v (.slice A35 n36 c37) (dv_assign (T rfl rfl)) ?_
      refine lw_nil ?_
      refine rk_inBlock ?_
      have h63 := ((h41.ext n51.ext).bt bt56 (by decide))
      have hd64 : 48 + ((ys.getD 0 0) % 256) = 48 + X % 10 := by omega
      have H65 := (bl_blk x61 (n51.ext.blk (e44.blk (n31.ext.blk H24))) (by omega))
      exact ih16 (((X / 10)).toNat) _ _ (by rw [hd27]; omega) ⟨A35, n36, c37, (X / 10), (L ++ [48 + ((ys.getD 0 0) % 256)]), Ad57, c58, rfl, f19, f20, rfl, rfl, E62, H65, h63, hO60, (by rw [hd64]; exact txt_snoc (by omega) hL), (div_sz (Wc.nonneg h34) (by omega) hXs)⟩
    · -- LTF
      refine rk_cf (T rfl (congrArg Value.bool (decide_eq_false hb46))) ?_
      refine rk_skip ?_
      refine rk_reg ?_
      refine lw_v (.slice Ad (L.length) cp) (dv_move (T rfl f21)) ?_
      refine lw_v (.int .u8 48) (dv_move (T rfl rfl)) ?_
      refine lw_e (oe_buildSlice (pv := [(0, .int .u8 48)]) (init := [.int .u8 0]) (l := [.int .u8 48]) us126 sz5 rfl rfl zc5 (by kernel_rfl) ⟨rfl, (T rfl rfl), trivial⟩ rfl ?_)
      intro b66 w67 n68
      have N69 : w.heap.size ≤ b66 := n68.eq ▸ E45.size
      have H70 := (e44.blk n31.blk)
      have : b29 < b66 := n68.eq ▸ lt_of_blk H70
      have E71 := below_ext E45 E45.size n68.ext
      have h72 := (((h26.ext n31.ext).ext e44).ext n68.ext)
      refine lw_e (oe_appendT (base := b6) (L := L) (M := [48]) (m := 1) us126 in5 (T rfl rfl) (T rfl rfl) h72 (Wd.ownW (xs := [48]) n68.blk) rfl (by first | omega | (simp; done) | (simp; omega)) (by first | omega | (simp; done) | (simp; omega)) ?_)
      intro Ad74 c75 w76 hO77 x78 bt73
      have E79 := below_bl E71 N9 x78
      refine lw_v (.slice A35 n36 c37) (dv_move (T rfl rfl)) ?_
      refine lw_v (.slice Ad74 ((L ++ [48]).length) c75) (dv_assign (T rfl rfl)) ?_
      refine lw_v (.slice A35 n36 c37) (dv_assign (T rfl rfl)) ?_
      refine lw_nil ?_
      refine rk_inBlock ?_
      have h80 := ((h41.ext n68.ext).bt bt73 (by decide))
      have hd81 : 48 = 48 + X % 10 := by have := h42.pos; have := h42.nonneg; omega
      have H82 := (bl_blk x78 (n68.ext.blk (e44.blk (n31.ext.blk H24))) (by omega))
      exact ih16 (((X / 10)).toNat) _ _ (by rw [hd27]; omega) ⟨A35, n36, c37, (X / 10), (L ++ [48]), Ad74, c75, rfl, f19, f20, rfl, rfl, E79, H82, h80, hO77, (by rw [hd81]; exact txt_snoc (by omega) hL), (div_sz (Wc.nonneg h34) (by omega) hXs)⟩
  · -- LF
    refine rk_cf (T rfl (congrArg Value.bool (decide_eq_false hb28))) ?_
    refine rk_exit rfl ?_
    refine rk_seq ?_
    refine rk_seq ?_
    have hX0 : X = 0 := by omega
    subst hX0
    rw [show (0 : Int).toNat = 0 from rfl, dg_zero, List.append_nil] at hL
    refine rk_reg ?_
    refine lw_v (.slice Ad (L.length) cp) (dv_move (T rfl f21)) ?_
    refine lw_v (.int .i64 ((L.length : Int))) (dv_len (ad := Ad) (l := L.length) (c := cp) us126 (T rfl rfl)) ?_
    refine lw_v (.bool (decide (((L.length : Int)) = 0))) (dv_eql (a := (L.length : Int)) (b := 0) (T rfl rfl) C) ?_
    refine lw_nil ?_
    by_cases hb83 : ((L.length : Int)) = 0
    · -- LFT
      refine rk_ct (T rfl (congrArg Value.bool (decide_eq_true hb83))) ?_
      refine rk_reg ?_
      refine lw_v (.slice Ad (L.length) cp) (dv_move (T rfl f21)) ?_
      refine lw_e (oe_buildSlice (pv := [(0, .int .u8 48)]) (init := [.int .u8 0]) (l := [.int .u8 48]) us126 sz5 rfl rfl zc5 (by kernel_rfl) ⟨rfl, C, trivial⟩ rfl ?_)
      intro b84 w85 n86
      have N87 : w.heap.size ≤ b84 := n86.eq ▸ E23.size
      have : b1 < b84 := n86.eq ▸ lt_of_blk H24
      have E88 := below_ext E23 E23.size n86.ext
      have h89 := (h26.ext n86.ext)
      refine lw_e (oe_appendT (base := b6) (L := L) (M := [48]) (m := 1) us126 in5 (T rfl rfl) (T rfl rfl) h89 (Wd.ownW (xs := [48]) n86.blk) rfl (by first | omega | (simp; done) | (simp; omega)) (by first | omega | (simp; done) | (simp; omega)) ?_)
      intro Ad91 c92 w93 hO94 x95 bt90
      have E96 := below_bl E88 N9 x95
      refine lw_v (.slice Ad91 ((L ++ [48]).length) c92) (dv_assign (T rfl rfl)) ?_
      refine lw_nil ?_
      refine rk_seq ?_
      refine rk_seq ?_
      refine rk_reg ?_
      refine lw_v (.pointer (some ⟨b1, 0, none⟩)) (dv_fieldAddr (a := ⟨b1, 0, none⟩) (a' := ⟨b1, 0, none⟩) fo69_0 (T rfl f19) rfl) ?_
      have H97 := (bl_blk x95 (n86.ext.blk H24) (by omega))
      refine lw_v (.bool na) (dv_load1 (b := b1) (o := 0) agt4 (T rfl rfl) H97 rfl) ?_
      refine lw_nil ?_
      rcases Bool.eq_false_or_eq_true (na) with hb98 | hb98
      · -- LFTT
        refine rk_ct (T rfl (congrArg Value.bool hb98)) ?_
        refine rk_reg ?_
        refine lw_v (.slice Ad91 ((L ++ [48]).length) c92) (dv_move (T rfl rfl)) ?_
        refine lw_e (oe_buildSlice (pv := [(0, .int .u8 45)]) (init := [.int .u8 0]) (l := [.int .u8 45]) us126 sz5 rfl rfl zc5 (by kernel_rfl) ⟨rfl, C, trivial⟩ rfl ?_)
        intro b99 w100 n101
        have N102 : w.heap.size ≤ b99 := n101.eq ▸ E96.size
        have : b1 < b99 := n101.eq ▸ lt_of_blk H97
        have E103 := below_ext E96 E96.size n101.ext
        have h104 := (hO94.ext n101.ext)
        refine lw_e (oe_appendT (base := b6) (L := (L ++ [48])) (M := [45]) (m := 1) us126 in5 (T rfl rfl) (T rfl rfl) h104 (Wd.ownW (xs := [45]) n101.blk) rfl (by first | omega | (simp; done) | (simp; omega)) (by first | omega | (simp; done) | (simp; omega)) ?_)
        intro Ad106 c107 w108 hO109 x110 bt105
        have E111 := below_bl E103 N9 x110
        refine lw_v (.slice Ad106 (((L ++ [48]) ++ [45]).length) c107) (dv_assign (T rfl rfl)) ?_
        refine lw_nil ?_
        refine rk_seq ?_
        refine rk_reg ?_
        refine lw_v (.slice Ad106 (((L ++ [48]) ++ [45]).length) c107) (dv_move (T rfl rfl)) ?_
        refine lw_e (oe_callf (vs := [.slice Ad106 (((L ++ [48]) ++ [45]).length) c107]) co120 (ar1 (T rfl rfl)) (rev_ok hO109 rfl (by first | omega | (simp; done) | (simp; omega)) (by first | omega | (simp; done) | (simp; omega))) ?_)
        rintro _ w113 ⟨rfl, e114, hO112⟩
        have E115 := below_bl E111 N9 e114
        refine lw_nil ?_
        refine rk_seq ?_
        refine rk_reg ?_
        refine lw_v (.slice Ad106 (((L ++ [48]) ++ [45]).length) c107) (dv_move (T rfl rfl)) ?_
        refine lw_v (.string (bOf (((((L ++ [48]) ++ [45])).reverse)))) (dv_convBS (L := ((((L ++ [48]) ++ [45])).reverse)) (A := Ad106) (l := ((L ++ [48]) ++ [45]).length) (c := c107) us126 ui5 ut9 (by exact (T rfl rfl)) hO112.wd (by first | rfl | (simp; done) | (simp; omega))) ?_
        refine lw_v (.string (bOf (((((L ++ [48]) ++ [45])).reverse)))) (dv_assign (T rfl rfl)) ?_
        refine lw_nil ?_
        refine rk_ret Try.func102 (v := .string (bOf (((((L ++ [48]) ++ [45])).reverse)))) (res1 Try.results102 (rv_tmp rfl rfl)) ⟨_, rfl, ?_⟩
        have hneg := ha.neg_iff
        exact ⟨congrArg (fun l => Value.string (bOf l)) ((absurd (hneg.1 (by assumption)) (txt_fin10 hL (by omega)).2)), E115⟩
      · -- LFTF
        refine rk_cf (T rfl (congrArg Value.bool hb98)) ?_
        refine rk_skip ?_
        refine rk_seq ?_
        refine rk_reg ?_
        refine lw_v (.slice Ad91 ((L ++ [48]).length) c92) (dv_move (T rfl rfl)) ?_
        refine lw_e (oe_callf (vs := [.slice Ad91 ((L ++ [48]).length) c92]) co120 (ar1 (T rfl rfl)) (rev_ok hO94 rfl (by first | omega | (simp; done) | (simp; omega)) (by first | omega | (simp; done) | (simp; omega))) ?_)
        rintro _ w117 ⟨rfl, e118, hO116⟩
        have E119 := below_bl E96 N9 e118
        refine lw_nil ?_
        refine rk_seq ?_
        refine rk_reg ?_
        refine lw_v (.slice Ad91 ((L ++ [48]).length) c92) (dv_move (T rfl rfl)) ?_
        refine lw_v (.string (bOf ((((L ++ [48])).reverse)))) (dv_convBS (L := (((L ++ [48])).reverse)) (A := Ad91) (l := (L ++ [48]).length) (c := c92) us126 ui5 ut9 (by exact (T rfl rfl)) hO116.wd (by first | rfl | (simp; done) | (simp; omega))) ?_
        refine lw_v (.string (bOf ((((L ++ [48])).reverse)))) (dv_assign (T rfl rfl)) ?_
        refine lw_nil ?_
        refine rk_ret Try.func102 (v := .string (bOf ((((L ++ [48])).reverse)))) (res1 Try.results102 (rv_tmp rfl rfl)) ⟨_, rfl, ?_⟩
        have hneg := ha.neg_iff
        exact ⟨congrArg (fun l => Value.string (bOf l)) ((txt_fin10 hL (by omega)).1), E119⟩
    · -- LFF
      refine rk_cf (T rfl (congrArg Value.bool (decide_eq_false hb83))) ?_
      refine rk_skip ?_
      refine rk_seq ?_
      refine rk_seq ?_
      refine rk_reg ?_
      refine lw_v (.pointer (some ⟨b1, 0, none⟩)) (dv_fieldAddr (a := ⟨b1, 0, none⟩) (a' := ⟨b1, 0, none⟩) fo69_0 (T rfl f19) rfl) ?_
      refine lw_v (.bool na) (dv_load1 (b := b1) (o := 0) agt4 (T rfl rfl) H24 rfl) ?_
      refine lw_nil ?_
      rcases Bool.eq_false_or_eq_true (na) with hb120 | hb120
      · -- LFFT
        refine rk_ct (T rfl (congrArg Value.bool hb120)) ?_
        refine rk_reg ?_
        refine lw_v (.slice Ad (L.length) cp) (dv_move (T rfl f21)) ?_
        refine lw_e (oe_buildSlice (pv := [(0, .int .u8 45)]) (init := [.int .u8 0]) (l := [.int .u8 45]) us126 sz5 rfl rfl zc5 (by kernel_rfl) ⟨rfl, C, trivial⟩ rfl ?_)
        intro b121 w122 n123
        have N124 : w.heap.size ≤ b121 := n123.eq ▸ E23.size
        have : b1 < b121 := n123.eq ▸ lt_of_blk H24
        have E125 := below_ext E23 E23.size n123.ext
        have h126 := (h26.ext n123.ext)
        refine lw_e (oe_appendT (base := b6) (L := L) (M := [45]) (m := 1) us126 in5 (T rfl rfl) (T rfl rfl) h126 (Wd.ownW (xs := [45]) n123.blk) rfl (by first | omega | (simp; done) | (simp; omega)) (by first | omega | (simp; done) | (simp; omega)) ?_)
        intro Ad128 c129 w130 hO131 x132 bt127
        have E133 := below_bl E125 N9 x132
        refine lw_v (.slice Ad128 ((L ++ [45]).length) c129) (dv_assign (T rfl rfl)) ?_
        refine lw_nil ?_
        refine rk_seq ?_
        refine rk_reg ?_
        refine lw_v (.slice Ad128 ((L ++ [45]).length) c129) (dv_move (T rfl rfl)) ?_
        refine lw_e (oe_callf (vs := [.slice Ad128 ((L ++ [45]).length) c129]) co120 (ar1 (T rfl rfl)) (rev_ok hO131 rfl (by first | omega | (simp; done) | (simp; omega)) (by first | omega | (simp; done) | (simp; omega))) ?_)
        rintro _ w135 ⟨rfl, e136, hO134⟩
        have E137 := below_bl E133 N9 e136
        refine lw_nil ?_
        refine rk_seq ?_
        refine rk_reg ?_
        refine lw_v (.slice Ad128 ((L ++ [45]).length) c129) (dv_move (T rfl rfl)) ?_
        refine lw_v (.string (bOf ((((L ++ [45])).reverse)))) (dv_convBS (L := (((L ++ [45])).reverse)) (A := Ad128) (l := (L ++ [45]).length) (c := c129) us126 ui5 ut9 (by exact (T rfl rfl)) hO134.wd (by first | rfl | (simp; done) | (simp; omega))) ?_
        refine lw_v (.string (bOf ((((L ++ [45])).reverse)))) (dv_assign (T rfl rfl)) ?_
        refine lw_nil ?_
        refine rk_ret Try.func102 (v := .string (bOf ((((L ++ [45])).reverse)))) (res1 Try.results102 (rv_tmp rfl rfl)) ⟨_, rfl, ?_⟩
        have hneg := ha.neg_iff
        exact ⟨congrArg (fun l => Value.string (bOf l)) (txt_fin01 hL (by omega) (hneg.1 (by assumption))), E137⟩
      · -- LFFF
        refine rk_cf (T rfl (congrArg Value.bool hb120)) ?_
        refine rk_skip ?_
        refine rk_seq ?_
        refine rk_reg ?_
        refine lw_v (.slice Ad (L.length) cp) (dv_move (T rfl f21)) ?_
        refine lw_e (oe_callf (vs := [.slice Ad (L.length) cp]) co120 (ar1 (T rfl rfl)) (rev_ok h26 rfl (by first | omega | (simp; done) | (simp; omega)) (by first | omega | (simp; done) | (simp; omega))) ?_)
        rintro _ w139 ⟨rfl, e140, hO138⟩
        have E141 := below_bl E23 N9 e140
        refine lw_nil ?_
        refine rk_seq ?_
        refine rk_reg ?_
        refine lw_v (.slice Ad (L.length) cp) (dv_move (T rfl f21)) ?_
        refine lw_v (.string (bOf ((L.reverse)))) (dv_convBS (L := (L.reverse)) (A := Ad) (l := L.length) (c := cp) us126 ui5 ut9 (by exact (T rfl rfl)) hO138.wd (by first | rfl | (simp; done) | (simp; omega))) ?_
        refine lw_v (.string (bOf ((L.reverse)))) (dv_assign (T rfl rfl)) ?_
        refine lw_nil ?_
        refine rk_ret Try.func102 (v := .string (bOf ((L.reverse)))) (res1 Try.results102 (rv_tmp rfl rfl)) ⟨_, rfl, ?_⟩
        have hneg := ha.neg_iff
        exact ⟨congrArg (fun l => Value.string (bOf l)) (txt_fin00 hL (by omega) (fun hh => by have := hneg.2 hh; simp_all)), E141⟩

set_option maxHeartbeats 1000000 in
theorem l1Text_ok {w : World} {na : Bool} {Aa : Option Addr} {la ca : Nat} {x : Int} {sx : Nat} (ha : Num 32 115 .u32 w na Aa la ca x sx) (hs : sx ≤ 100000) : Ct Try.prog 61 [.agg #[.bool na, .slice Aa la ca]] w fun v w1 => v = .string (bOf (txtL x)) ∧ Ext w w1 := by
  refine ct_run (n := 58) Try.func61 rfl Try.ntmps61 rfl ?_
  have E0 : Below w.heap.size w w := Below.refl _ _
  have lha := Num.len (by decide) ha
  have hDs := dg_bits ha.lt
  refine rk_seq ?_
  refine rk_reg ?_
  refine lw_e (oe_box (v := .agg #[.bool na, .slice Aa la ca]) (cs := #[.bool na, .slice Aa la ca]) (T rfl rfl) rfl ?_)
  intro b1 w2 n3
  have N4 : w.heap.size ≤ b1 := n3.eq ▸ E0.size
  have E5 := below_ext E0 E0.size n3.ext
  refine lw_v (.string (bOf [])) (dv_assign C) ?_
  refine lw_nil ?_
  refine rk_seq ?_
  refine rk_seq ?_
  refine rk_reg ?_
  refine lw_v (.pointer (some ⟨b1, 1, none⟩)) (dv_fieldAddr (a := ⟨b1, 0, none⟩) (a' := ⟨b1, 1, none⟩) fo62_1 (T rfl rfl) rfl) ?_
  refine lw_v (.slice Aa la ca) (dv_load1 (b := b1) (o := 1) agt60 (T rfl rfl) n3.blk rfl) ?_
  refine lw_v (.int .i64 ((la : Int))) (dv_len (ad := Aa) (l := la) (c := ca) us60 (T rfl rfl)) ?_
  refine lw_v (.bool (decide (((la : Int)) = 0))) (dv_eql (a := (la : Int)) (b := 0) (T rfl rfl) C) ?_
  refine lw_nil ?_
  by_cases hb6 : ((la : Int)) = 0
  · -- T
    refine rk_ct (T rfl (congrArg Value.bool (decide_eq_true hb6))) ?_
    refine rk_seq ?_
    refine rk_reg ?_
    refine lw_v (.string (bOf [48])) (dv_assign C) ?_
    refine lw_nil ?_
    refine rk_ret Try.func61 (v := .string (bOf [48])) (res1 Try.results61 (rv_tmp rfl rfl)) ⟨_, rfl, ?_⟩
    have hp0 := ha.wc.pos
    have hneg := ha.neg_iff
    exact ⟨congrArg (fun l => Value.string (bOf l)) (by have h0 : x = 0 := (by omega); rw [h0]; rfl), E5⟩
  · -- F
    refine rk_cf (T rfl (congrArg Value.bool (decide_eq_false hb6))) ?_
    refine rk_skip ?_
    refine rk_seq ?_
    refine rk_reg ?_
    refine lw_v (.string (bOf [])) (dv_assign C) ?_
    refine lw_nil ?_
    refine rk_seq ?_
    refine rk_reg ?_
    refine lw_v (.pointer (some ⟨b1, 1, none⟩)) (dv_fieldAddr (a := ⟨b1, 0, none⟩) (a' := ⟨b1, 1, none⟩) fo62_1 (T rfl rfl) rfl) ?_
    refine lw_v (.slice Aa la ca) (dv_load1 (b := b1) (o := 1) agt60 (T rfl rfl) n3.blk rfl) ?_
    refine lw_v (.slice Aa la ca) (dv_assign (T rfl rfl)) ?_
    refine lw_nil ?_
    refine rk_seq ?_
    refine rk_block ?_
    have h7 := (ha.ext n3.ext)
    refine rk_loop (fun dm_ fr wl => ∃ (Ax : Option Addr) (lx cx : Nat) (X : Int) (M : List Int), dm_ = X.toNat ∧ fr 1 = .pointer (some ⟨b1, 0, none⟩) ∧ fr 2 = .string (bOf []) ∧ fr 3 = .string (bOf M) ∧ fr 4 = .slice Ax lx cx ∧ Below w.heap.size w wl ∧ wl.heap[b1]? = some (.cells #[.bool na, .slice Aa la ca] 62) ∧ Wc 32 115 .u32 wl Ax lx cx X ∧ ((dg X.toNat).reverse ++ M = (dg x.natAbs).reverse) ∧ (X < 2 ^ sx)) ((((x.natAbs : Int))).toNat) ⟨Aa, la, ca, ((x.natAbs : Int)), [], rfl, rfl, rfl, rfl, rfl, E5, n3.blk, h7.wc, (by simp), h7.ltI⟩ ?_
    intro d12 fr11 w8 hI9 ih10
    obtain ⟨Ax, lx, cx, X, M, hd20, f13, f14, f15, f16, E17, H18, h19, hM, hXs⟩ := hI9
    have hXp := h19.pos
    have hXn := h19.nonneg
    have hlx := Wc.len (by decide) h19 hXs
    have hMl := congrArg List.length hM
    simp only [List.length_append, List.length_reverse] at hMl
    obtain ⟨xs, hxl, hxc, hxw, ox, hxk, hxv⟩ := id h19
    refine rk_seq ?_
    refine rk_seq ?_
    refine rk_reg ?_
    refine lw_v (.slice Ax lx cx) (dv_move (T rfl f16)) ?_
    refine lw_v (.int .i64 ((lx : Int))) (dv_len (ad := Ax) (l := lx) (c := cx) us60 (T rfl rfl)) ?_
    refine lw_v (.bool (decide (0 < ((lx : Int))))) (dv_gtr (a := (lx : Int)) (b := 0) (T rfl rfl) C) ?_
    refine lw_nil ?_
    by_cases hb21 : 0 < ((lx : Int))
    · -- FLT
      refine rk_ct (T rfl (congrArg Value.bool (decide_eq_true hb21))) ?_
      refine rk_skip ?_
      refine rk_block ?_
      refine rk_seq ?_
      refine rk_reg ?_
      refine lw_v (.slice Ax lx cx) (dv_move (T rfl f16)) ?_
      refine lw_v (.int .i64 ((lx : Int))) (dv_len (ad := Ax) (l := lx) (c := cx) us60 (T rfl rfl)) ?_
      refine lw_e (oe_makeW (l := lx) (j := (lx : Int)) us60 in115 (T rfl rfl) (T rfl rfl) (by omega) (by first | omega | (simp; done) | (simp; omega)) (by first | omega | (simp; done) | (simp; omega)) ?_)
      intro b22 w23 n24
      have N25 : w.heap.size ≤ b22 := n24.eq ▸ E17.size
      have : b1 < b22 := n24.eq ▸ lt_of_blk H18
      have E26 := below_ext E17 E17.size n24.ext
      refine lw_v (.slice (some ⟨b22, 0, none⟩) lx lx) (dv_assign (T rfl rfl)) ?_
      refine lw_nil ?_
      refine rk_seq ?_
      refine rk_reg ?_
      refine lw_v (.int .u64 0) (dv_assign C) ?_
      refine lw_nil ?_
      refine rk_seq ?_
      refine rk_seq ?_
      refine rk_reg ?_
      refine lw_v (.slice Ax lx cx) (dv_move (T rfl f16)) ?_
      refine lw_v (.int .i64 ((lx : Int))) (dv_len (ad := Ax) (l := lx) (c := cx) us60 (T rfl rfl)) ?_
      refine lw_v (.int .i64 (((lx : Int)) - 1)) (dv_sub (a := (lx : Int)) (b := 1) (z := ((lx : Int)) - 1) (T rfl rfl) C (wr_i64 (by omega) (by omega))) ?_
      refine lw_v (.int .i64 (((lx : Int)) - 1)) (dv_assign (T rfl rfl)) ?_
      refine lw_nil ?_
      refine rk_block ?_
      have hE27 : Below w8.heap.size w8 _ := below_ext (Below.refl _ _) (Nat.le_refl _) n24.ext
      have hb5 : w8.heap.size ≤ b22 := by have := n24.eq; omega
      have H28 := (n24.ext.blk H18)
      refine rk_loop (fun dm_ fr wl => ∃ (j : Nat) (L : List Int) (r : Int), dm_ = j ∧ fr 1 = .pointer (some ⟨b1, 0, none⟩) ∧ fr 2 = .string (bOf []) ∧ fr 3 = .string (bOf M) ∧ fr 4 = .slice Ax lx cx ∧ fr 5 = .slice (some ⟨b22, 0, none⟩) lx lx ∧ fr 6 = .int .u64 r ∧ fr 7 = .int .i64 ((j : Int) - 1) ∧ fr 14 = .slice Ax lx cx ∧ fr 15 = .int .i64 ((lx : Int)) ∧ fr 16 = .bool (decide (0 < ((lx : Int)))) ∧ fr 17 = .slice Ax lx cx ∧ fr 18 = .int .i64 ((lx : Int)) ∧ fr 19 = .slice (some ⟨b22, 0, none⟩) lx lx ∧ fr 20 = .slice Ax lx cx ∧ fr 21 = .int .i64 ((lx : Int)) ∧ fr 22 = .int .i64 (((lx : Int)) - 1) ∧ Below w.heap.size w wl ∧ wl.heap[b1]? = some (.cells #[.bool na, .slice Aa la ca] 62) ∧ wl.heap[b22]? = some (.cells (L.map (Value.int .u32)).toArray 115) ∧ (j ≤ lx) ∧ (L.length = lx) ∧ (okW (2 ^ 32) L) ∧ (valB (2 ^ 32) (L.drop j) = valB (2 ^ 32) (xs.drop j) / 10) ∧ (r = valB (2 ^ 32) (xs.drop j) % 10) ∧ (Below w8.heap.size w8 wl)) (lx) ⟨lx, (List.replicate lx (0 : Int)), 0, rfl, f13, f14, f15, f16, rfl, rfl, (vi (by omega)), rfl, rfl, rfl, rfl, rfl, rfl, rfl, rfl, rfl, E26, H28, n24.blk, (Nat.le_refl _), (by simp), (okW.replicate (by decide) _), (by rw [List.drop_of_length_le (by simp), List.drop_of_length_le (by omega)]; simp [valB]), (by rw [List.drop_of_length_le (by omega)]; simp [valB]), hE27⟩ ?_
      intro d33 fr32 w29 hI30 ih31
      obtain ⟨j, L, r, hd53, f34, f35, f36, f37, f38, f39, f40, f41, f42, f43, f44, f45, f46, f47, f48, f49, E50, H51, H52, hj, hLl, hok, hLv, hrv, hE2⟩ := hI30
      have hwq := hxw.ext hE2
      have gx := okW.getD ox (by decide) (j - 1)
      have hr9 : 0 ≤ r ∧ r < 10 := by omega
      refine rk_seq ?_
      refine rk_seq ?_
      refine rk_reg ?_
      refine lw_v (.int .i64 ((j : Int) - 1)) (dv_move (T rfl f40)) ?_
      refine lw_v (.bool (decide (0 ≤ ((j : Int) - 1)))) (dv_geq (a := (j : Int) - 1) (b := 0) (T rfl rfl) C) ?_
      refine lw_nil ?_
      by_cases hb54 : 0 ≤ ((j : Int) - 1)
      · -- FLTLT
        refine rk_ct (T rfl (congrArg Value.bool (decide_eq_true hb54))) ?_
        refine rk_skip ?_
        refine rk_seq ?_
        refine rk_block ?_
        refine rk_seq ?_
        refine rk_reg ?_
        refine lw_v (.int .u64 r) (dv_move (T rfl f39)) ?_
        refine lw_v (.int .u64 (r * 4294967296)) (dv_shl (a := r) (b := 32) (z := r * 4294967296) (T rfl rfl) C (by decide) (shl_c (m := 4294967296) (n := 32) (by decide) (wn_u64 (by omega) (by omega)))) ?_
        refine lw_v (.slice Ax lx cx) (dv_move (T rfl f37)) ?_
        refine lw_v (.int .i64 ((j : Int) - 1)) (dv_move (T rfl f40)) ?_
        obtain ⟨g55, o56, rfl⟩ := Wd.at hwq (by first | omega | (simp; done) | (simp; omega))
        refine lw_v (.pointer (some ⟨g55, o56 + (j - 1), none⟩)) (dv_indexW (g := g55) (o := o56) (l := lx) (c := cx) (i := (j - 1)) (j := (j : Int) - 1) us60 sz115 (T rfl rfl) (T rfl rfl) (by omega) (by first | omega | (simp; done) | (simp; omega))) ?_
        refine lw_v (.int .u32 (xs.getD ((j - 1)) 0)) (dv_load agt115 (T rfl rfl) (Wd.cell hwq (by first | omega | (simp; done) | (simp; omega)))) ?_
        refine lw_v (.int .u64 (xs.getD ((j - 1)) 0)) (dv_conv (a := xs.getD ((j - 1)) 0) (z := xs.getD ((j - 1)) 0) ui115 ui22 (T rfl rfl) (wn_u64 (by omega) (by omega))) ?_
        refine lw_v (.int .u64 ((xs.getD ((j - 1)) 0) + (r * 4294967296))) (dv_or (a := r * 4294967296) (b := xs.getD ((j - 1)) 0) (z := (xs.getD ((j - 1)) 0) + (r * 4294967296)) (T rfl rfl) (T rfl rfl) (or_add (k := .u64) (a := xs.getD ((j - 1)) 0) (b := r * 4294967296) (i := 32) rfl (by omega) (by omega) (by omega) (by omega) (lt64 (by omega)) (lt64 (by omega))).2) ?_
        refine lw_v (.int .u64 ((xs.getD ((j - 1)) 0) + (r * 4294967296))) (dv_assign (T rfl rfl)) ?_
        refine lw_nil ?_
        refine rk_seq ?_
        refine rk_reg ?_
        refine lw_v (.slice (some ⟨b22, 0, none⟩) lx lx) (dv_move (T rfl f38)) ?_
        refine lw_v (.int .i64 ((j : Int) - 1)) (dv_move (T rfl f40)) ?_
        refine lw_v (.int .u64 ((xs.getD ((j - 1)) 0) + (r * 4294967296))) (dv_move (T rfl rfl)) ?_
        refine lw_v (.int .u64 (((xs.getD ((j - 1)) 0) + (r * 4294967296)) / 10)) (dv_quo (a := (xs.getD ((j - 1)) 0) + (r * 4294967296)) (b := 10) (z := ((xs.getD ((j - 1)) 0) + (r * 4294967296)) / 10) (T rfl rfl) C (by decide) (quo_c (by omega) (by decide) (wn_u64 (by omega) (by omega)))) ?_
        refine lw_v (.int .u32 ((((xs.getD ((j - 1)) 0) + (r * 4294967296)) / 10) % 4294967296)) (dv_conv (a := ((xs.getD ((j - 1)) 0) + (r * 4294967296)) / 10) (z := (((xs.getD ((j - 1)) 0) + (r * 4294967296)) / 10) % 4294967296) ui22 ui115 (T rfl rfl) (wr_u32 _)) ?_
        refine lw_v (.pointer (some ⟨b22, ((j - 1)), none⟩)) (dv_indexO (g := b22) (l := lx) (c := lx) (i := (j - 1)) (j := (j : Int) - 1) us60 sz115 (T rfl rfl) (T rfl rfl) (by omega) (by first | omega | (simp; done) | (simp; omega))) ?_
        refine lw_e (oe_storeW (L := L) (i := (j - 1)) (z := (((xs.getD ((j - 1)) 0) + (r * 4294967296)) / 10) % 4294967296) sz115 (T rfl rfl) (T rfl rfl) H52 (by first | omega | (simp; done) | (simp; omega)) ?_)
        intro w57 s58 H59
        have E60 := below_st E50 N25 s58
        refine lw_nil ?_
        refine rk_reg ?_
        refine lw_v (.int .u64 ((xs.getD ((j - 1)) 0) + (r * 4294967296))) (dv_move (T rfl rfl)) ?_
        refine lw_v (.int .u64 (((xs.getD ((j - 1)) 0) + (r * 4294967296)) % 10)) (dv_rem (a := (xs.getD ((j - 1)) 0) + (r * 4294967296)) (b := 10) (z := ((xs.getD ((j - 1)) 0) + (r * 4294967296)) % 10) (T rfl rfl) C (by decide) (rem_c (by omega) rfl)) ?_
        refine lw_v (.int .u64 (((xs.getD ((j - 1)) 0) + (r * 4294967296)) % 10)) (dv_assign (T rfl rfl)) ?_
        refine lw_nil ?_
        refine rk_inBlock ?_
        refine rk_reg ?_
        refine lw_v (.int .i64 ((j : Int) - 1)) (dv_move (T rfl f40)) ?_
        refine lw_v (.int .i64 (((j : Int) - 1) - 1)) (dv_sub (a := (j : Int) - 1) (b := 1) (z := ((j : Int) - 1) - 1) (T rfl rfl) C (wr_i64 (by omega) (by omega))) ?_
        refine lw_v (.int .i64 (((j : Int) - 1) - 1)) (dv_assign (T rfl rfl)) ?_
        refine lw_nil ?_
        have hq61 : ((xs.getD ((j - 1)) 0) + (r * 4294967296)) / 10 % 4294967296 = ((xs.getD ((j - 1)) 0) + (r * 4294967296)) / 10 := by omega
        have H62 := (s58.blk H51 (by omega))
        exact ih31 (((j - 1))) _ _ (by rw [hd53]; omega) ⟨(j - 1), (L.set ((j - 1)) ((((xs.getD ((j - 1)) 0) + (r * 4294967296)) / 10) % 4294967296)), (((xs.getD ((j - 1)) 0) + (r * 4294967296)) % 10), rfl, f34, f35, f36, f37, f38, rfl, (vi (by omega)), f41, f42, f43, f44, f45, f46, f47, f48, f49, E60, H62, H59, (by omega), (by simp [hLl]), (okW.set hok (by omega) (by omega) _), (by rw [hq61]; exact (ten_step (by omega) (by omega) (by omega) hLv hrv).1), (ten_step (by omega) (by omega) (by omega) hLv hrv).2, (below_st hE2 hb5 s58)⟩
      · -- FLTLF
        refine rk_cf (T rfl (congrArg Value.bool (decide_eq_false hb54))) ?_
        refine rk_exit rfl ?_
        refine rk_seq ?_
        have hj0 : j = 0 := by omega
        have hL0 := hLv
        rw [hj0, List.drop_zero, List.drop_zero, ← hxv] at hL0
        have hr0 := hrv
        rw [hj0, List.drop_zero, ← hxv] at hr0
        refine rk_reg ?_
        refine lw_v (.int .u64 r) (dv_move (T rfl f39)) ?_
        refine lw_v (.int .u64 (48 + r)) (dv_add (a := 48) (b := r) (z := 48 + r) C (T rfl rfl) (wn_u64 (by omega) (by omega))) ?_
        refine lw_v (.int .u8 ((48 + r) % 256)) (dv_conv (a := 48 + r) (z := (48 + r) % 256) ui22 ui5 (T rfl rfl) (wr_u8 _)) ?_
        refine lw_e (oe_buildSlice (pv := [(0, .int .u8 ((48 + r) % 256))]) (init := [.int .u8 0]) (l := [.int .u8 ((48 + r) % 256)]) us126 sz5 rfl rfl zc5 (by kernel_rfl) ⟨rfl, (T rfl rfl), trivial⟩ rfl ?_)
        intro b63 w64 n65
        have N66 : w.heap.size ≤ b63 := n65.eq ▸ E50.size
        have : b22 < b63 := n65.eq ▸ lt_of_blk H52
        have E67 := below_ext E50 E50.size n65.ext
        refine lw_v (.string (bOf ([(48 + r) % 256]))) (dv_convBS (L := [(48 + r) % 256]) (A := some ⟨b63, 0, none⟩) (l := 1) (c := 1) us126 ui5 ut9 (by exact (T rfl rfl)) (Wd.ownW (xs := [(48 + r) % 256]) n65.blk) (by first | rfl | omega | (simp; done) | (simp; omega))) ?_
        refine lw_v (.string (bOf M)) (dv_move (T rfl f36)) ?_
        refine lw_v (.string (bOf (([(48 + r) % 256]) ++ M))) (dv_addS (L := ([(48 + r) % 256])) (M := M) (T rfl rfl) (T rfl rfl) (by simp; omega)) ?_
        refine lw_v (.string (bOf (([(48 + r) % 256]) ++ M))) (dv_assign (T rfl rfl)) ?_
        refine lw_nil ?_
        refine rk_reg ?_
        refine lw_v (.slice (some ⟨b22, 0, none⟩) lx lx) (dv_move (T rfl f38)) ?_
        have H68 := (n65.ext.blk H52)
        refine lw_e (oe_callf (vs := [.bool false, .slice (some ⟨b22, 0, none⟩) lx lx]) co89 (ar2 C (T rfl rfl)) (l1Trim_num (s := (32 * lx)) (neg := false) (⟨L, (by first | rfl | omega | (simp; done) | (simp; omega)), (by first | rfl | omega | (simp; done) | (simp; omega)), Wd.ownW H68, hok, rfl⟩ : Ws _ _ _ _ _ _ _ _) (by first | omega | (simp; done) | (simp; omega)) (valB_sz hok (by first | rfl | omega | (simp; done) | (simp; omega)))) ?_)
        rintro _ w74 ⟨nb69, A70, n71, c72, rfl, e75, hn73⟩
        have E76 := below_ext E67 E67.size e75
        have lhn73 := Num.len (by decide) hn73
        refine lw_v (.slice A70 n71 c72) (dv_field (v := .slice A70 n71 c72) fb62_1 agt60 (T rfl rfl) rfl) ?_
        refine lw_v (.slice A70 n71 c72) (dv_assign (T rfl rfl)) ?_
        refine lw_nil ?_
        refine rk_inBlock ?_
        have hvn : (0 : Int) ≤ valB (2 ^ 32) L := valB_nonneg (by decide) hok
        have hz77 : ((sg false (valB (2 ^ 32) L)).natAbs : Int) = X / 10 := by simp only [sg_false]; omega
        have H78 := (e75.blk (n65.ext.blk H51))
        exact ih10 (((X / 10)).toNat) _ _ (by rw [hd20]; omega) ⟨A70, n71, c72, (X / 10), ((([(48 + r) % 256]) ++ M)), rfl, f34, f35, rfl, rfl, E76, H78, (Wc.eq hn73.wc hz77), (by have h := txt_step (by omega) hM; rw [show ((48 + r) % 256 : Int) = 48 + X % 10 by omega]; exact h), (by omega)⟩
    · -- FLF
      refine rk_cf (T rfl (congrArg Value.bool (decide_eq_false hb21))) ?_
      refine rk_exit rfl ?_
      refine rk_seq ?_
      refine rk_seq ?_
      have hX0 : X = 0 := by omega
      have hM2 := hM
      rw [hX0, show (0 : Int).toNat = 0 from rfl, dg_zero, List.reverse_nil, List.nil_append] at hM2
      refine rk_reg ?_
      refine lw_v (.pointer (some ⟨b1, 0, none⟩)) (dv_fieldAddr (a := ⟨b1, 0, none⟩) (a' := ⟨b1, 0, none⟩) fo62_0 (T rfl f13) rfl) ?_
      refine lw_v (.bool na) (dv_load1 (b := b1) (o := 0) agt4 (T rfl rfl) H18 rfl) ?_
      refine lw_nil ?_
      rcases Bool.eq_false_or_eq_true (na) with hb79 | hb79
      · -- FLFT
        refine rk_ct (T rfl (congrArg Value.bool hb79)) ?_
        refine rk_seq ?_
        refine rk_reg ?_
        refine lw_v (.string (bOf M)) (dv_move (T rfl f15)) ?_
        refine lw_v (.string (bOf ([45] ++ M))) (dv_addS (L := [45]) (M := M) C (T rfl rfl) (by simp; omega)) ?_
        refine lw_v (.string (bOf ([45] ++ M))) (dv_assign (T rfl rfl)) ?_
        refine lw_nil ?_
        refine rk_ret Try.func61 (v := .string (bOf ([45] ++ M))) (res1 Try.results61 (rv_tmp rfl rfl)) ⟨_, rfl, ?_⟩
        have hp0 := ha.wc.pos
        have hneg := ha.neg_iff
        exact ⟨congrArg (fun l => Value.string (bOf l)) (by have h1 := txt_top hM2 (by omega); rw [if_pos (hneg.1 (by assumption))] at h1; exact h1), E17⟩
      · -- FLFF
        refine rk_cf (T rfl (congrArg Value.bool hb79)) ?_
        refine rk_skip ?_
        refine rk_seq ?_
        refine rk_reg ?_
        refine lw_v (.string (bOf M)) (dv_move (T rfl f15)) ?_
        refine lw_v (.string (bOf M)) (dv_assign (T rfl rfl)) ?_
        refine lw_nil ?_
        refine rk_ret Try.func61 (v := .string (bOf M)) (res1 Try.results61 (rv_tmp rfl rfl)) ⟨_, rfl, ?_⟩
        have hp0 := ha.wc.pos
        have hneg := ha.neg_iff
        exact ⟨congrArg (fun l => Value.string (bOf l)) (by have h1 := txt_top hM2 (by omega); rw [if_neg (fun hh => by have := hneg.2 hh; simp_all)] at h1; exact h1), E17⟩

end Go.Proofs.Ytpnjkjahfklfnaa.W
