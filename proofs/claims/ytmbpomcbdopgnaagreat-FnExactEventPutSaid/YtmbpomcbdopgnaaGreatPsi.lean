/- Walks and plain mathematics, packed by a program of this session: declarations that the rows reach. -/
import Derived.Test.YtmbpomcbdopgnaaGreatPsh
set_option linter.unusedVariables false
set_option linter.unusedSimpArgs false
namespace Go.Proofs.YtmbpomcbdopgnaaGreat.W
open Go Go.RowKit Go.Proofs.YtmbpomcbdopgnaaGreat.Fw
attribute [local irreducible] RunK LW AW DV OE Ct
theorem agt25 : aggB Tryz.prog 25 = some true := by kernel_rfl
theorem agt35 : aggB Tryz.prog 35 = some true := by kernel_rfl
theorem agt53 : aggB Tryz.prog 53 = some true := by kernel_rfl
theorem agt79 : aggB Tryz.prog 79 = some true := by kernel_rfl
theorem co18 : callOk Tryz.prog 18 = true := by kernel_rfl
theorem co21 : callOk Tryz.prog 21 = true := by kernel_rfl
theorem co35 : callOk Tryz.prog 35 = true := by kernel_rfl
theorem co36 : callOk Tryz.prog 36 = true := by kernel_rfl
theorem co37 : callOk Tryz.prog 37 = true := by kernel_rfl
theorem co38 : callOk Tryz.prog 38 = true := by kernel_rfl
theorem co39 : callOk Tryz.prog 39 = true := by kernel_rfl
theorem co40 : callOk Tryz.prog 40 = true := by kernel_rfl
theorem co41 : callOk Tryz.prog 41 = true := by kernel_rfl
theorem co44 : callOk Tryz.prog 44 = true := by kernel_rfl
theorem co46 : callOk Tryz.prog 46 = true := by kernel_rfl
theorem co47 : callOk Tryz.prog 47 = true := by kernel_rfl
theorem co48 : callOk Tryz.prog 48 = true := by kernel_rfl
theorem co49 : callOk Tryz.prog 49 = true := by kernel_rfl
theorem co51 : callOk Tryz.prog 51 = true := by kernel_rfl
theorem co63 : callOk Tryz.prog 63 = true := by kernel_rfl
theorem co66 : callOk Tryz.prog 66 = true := by kernel_rfl
theorem eg35 : Tryz.prog.eqGuardType Tryz.prog.depth 35 = false := by kernel_rfl
theorem fl35 : nestB Tryz.prog 35 .u64 3 4 = true := by kernel_rfl
theorem fo27_0 : fieldOffB Tryz.prog 27 0 = some 0 := by kernel_rfl
theorem fo27_1 : fieldOffB Tryz.prog 27 1 = some 4 := by kernel_rfl
theorem fo27_2 : fieldOffB Tryz.prog 27 2 = some 8 := by kernel_rfl
theorem fo35_0 : fieldOffB Tryz.prog 35 0 = some 0 := by kernel_rfl
theorem fo35_1 : fieldOffB Tryz.prog 35 1 = some 4 := by kernel_rfl
theorem fo35_2 : fieldOffB Tryz.prog 35 2 = some 8 := by kernel_rfl
theorem fo53_0 : fieldOffB Tryz.prog 53 0 = some 0 := by kernel_rfl
theorem fo53_1 : fieldOffB Tryz.prog 53 1 = some 2 := by kernel_rfl
theorem fo53_2 : fieldOffB Tryz.prog 53 2 = some 4 := by kernel_rfl
theorem fo79_0 : fieldOffB Tryz.prog 79 0 = some 0 := by kernel_rfl
theorem fo79_1 : fieldOffB Tryz.prog 79 1 = some 2 := by kernel_rfl
theorem fo79_2 : fieldOffB Tryz.prog 79 2 = some 4 := by kernel_rfl
theorem pl53 : placesB Tryz.prog 53 = some [(0, 2), (2, 2), (4, 2)] := by kernel_rfl
theorem pl79 : placesB Tryz.prog 79 = some [(0, 2), (2, 2), (4, 2)] := by kernel_rfl
theorem sz25 : sizeB Tryz.prog 25 = some 4 := by kernel_rfl
theorem sz35 : sizeB Tryz.prog 35 = some 12 := by kernel_rfl
theorem sz53 : sizeB Tryz.prog 53 = some 6 := by kernel_rfl
theorem sz79 : sizeB Tryz.prog 79 = some 6 := by kernel_rfl
theorem zc53 : zcB Tryz.prog 53 = some [.bool false, .slice none 0 0, .bool false, .slice none 0 0, .bool false, .slice none 0 0] := by kernel_rfl
theorem zc79 : zcB Tryz.prog 79 = some [.bool false, .slice none 0 0, .bool false, .slice none 0 0, .bool false, .slice none 0 0] := by kernel_rfl
theorem ze35 : zeroB Tryz.prog 35 = some #[.int .u64 0, .int .u64 0, .int .u64 0, .int .u64 0, .int .u64 0, .int .u64 0, .int .u64 0, .int .u64 0, .int .u64 0, .int .u64 0, .int .u64 0, .int .u64 0] := by kernel_rfl
theorem ze53 : zeroB Tryz.prog 53 = some #[.bool false, .slice none 0 0, .bool false, .slice none 0 0, .bool false, .slice none 0 0] := by kernel_rfl
theorem ze79 : zeroB Tryz.prog 79 = some #[.bool false, .slice none 0 0, .bool false, .slice none 0 0, .bool false, .slice none 0 0] := by kernel_rfl
set_option maxHeartbeats 1000000 in
theorem toPoint_ok {w : World} {x y u : Int}   : Ct Tryz.prog 7 [.agg #[.int .u64 (wv3 x), .int .u64 (wv2 x), .int .u64 (wv1 x), .int .u64 (wv0 x), .int .u64 (wv3 y), .int .u64 (wv2 y), .int .u64 (wv1 y), .int .u64 (wv0 y), .int .u64 (wv3 u), .int .u64 (wv2 u), .int .u64 (wv1 u), .int .u64 (wv0 u)]] w fun v w1 => v = .agg #[.int .u64 (wv3 x), .int .u64 (wv2 x), .int .u64 (wv1 x), .int .u64 (wv0 x), .int .u64 (wv3 y), .int .u64 (wv2 y), .int .u64 (wv1 y), .int .u64 (wv0 y), .int .u64 (wv3 u), .int .u64 (wv2 u), .int .u64 (wv1 u), .int .u64 (wv0 u)] ∧ Ext w w1 := by
 refine ct_run (n := 17) Tryz.func7 rfl Tryz.ntmps7 rfl ?_
 have E0 : Below w.heap.size w w := Below.refl _ _
 refine rk_seq <| rk_reg <| lw_e (oe_box (v := .agg (qA x y u)) (cs := (qA x y u)) (T rfl rfl) rfl ?_)
 intro b1 w2 n3
 have N4 : w.heap.size ≤ b1 := n3.eq ▸ E0.size
 have E5 := below_ext E0 E0.size n3.ext
 refine lw_e (oe_alloc ze35 ?_)
 intro b6 w7 n8
 have N9 : w.heap.size ≤ b6 := n8.eq ▸ E5.size
 have : b1 < b6 := n8.eq ▸ lt_of_blk n3.blk
 have E10 := below_ext E5 E5.size n8.ext
 refine qN <| lw_e (oe_alloc ze35 ?_)
 intro b11 w12 n13
 have N14 : w.heap.size ≤ b11 := n13.eq ▸ E10.size
 have : b6 < b11 := n13.eq ▸ lt_of_blk n8.blk
 have E15 := below_ext E10 E10.size n13.ext
 refine qN <| lw_v (.pointer (some ⟨b1, 0, none⟩)) (dv_fieldAddr (a := ⟨b1, 0, none⟩) (a' := ⟨b1, 0, none⟩) fo27_0 (T rfl rfl) rfl) ?_
 have H16 := (n13.ext.blk (n8.ext.blk n3.blk))
 refine lw_v (.agg #[qu (wv3 x), qu (wv2 x), qu (wv1 x), qu (wv0 x)]) (dv_loads (l := [qu (wv3 x), qu (wv2 x), qu (wv1 x), qu (wv0 x)]) agt25 sz25 (T rfl rfl) H16 rfl) <| lw_e (oe_callf (vs := [.agg #[qu (wv3 x), qu (wv2 x), qu (wv1 x), qu (wv0 x)]]) co21 (ar1 (T rfl rfl)) (toWide_ok (z := x)  ) ?_)
 rintro _ w17 ⟨rfl, e18⟩
 have E19 := below_ext E15 E15.size e18
 refine lw_v (.pointer (some ⟨b11, 0, none⟩)) (dv_fieldAddr (a := ⟨b11, 0, none⟩) (a' := ⟨b11, 0, none⟩) fo35_0 (T rfl rfl) rfl) ?_
 have H20 := (e18.blk n13.blk)
 refine lw_e (oe_store (v := .agg #[qu (wv3 x), qu (wv2 x), qu (wv1 x), qu (wv0 x)]) (vs := [qu (wv3 x), qu (wv2 x), qu (wv1 x), qu (wv0 x)]) (l := [qu (wv3 x), qu (wv2 x), qu (wv1 x), qu (wv0 x), qu 0, qu 0, qu 0, qu 0, qu 0, qu 0, qu 0, qu 0]) (T rfl rfl) (T rfl rfl) sz33 rfl rfl rfl H20 rfl ?_)
 intro w21 s22 H23
 have E24 := below_st E19 N14 s22
 refine qN <| lw_v (.pointer (some ⟨b1, 4, none⟩)) (dv_fieldAddr (a := ⟨b1, 0, none⟩) (a' := ⟨b1, 4, none⟩) fo27_1 (T rfl rfl) rfl) ?_
 have H25 := (s22.blk (e18.blk H16) (by omega))
 refine lw_v (.agg #[qu (wv3 y), qu (wv2 y), qu (wv1 y), qu (wv0 y)]) (dv_loads (l := [qu (wv3 y), qu (wv2 y), qu (wv1 y), qu (wv0 y)]) agt25 sz25 (T rfl rfl) H25 rfl) <| lw_e (oe_callf (vs := [.agg #[qu (wv3 y), qu (wv2 y), qu (wv1 y), qu (wv0 y)]]) co21 (ar1 (T rfl rfl)) (toWide_ok (z := y)  ) ?_)
 rintro _ w26 ⟨rfl, e27⟩
 have E28 := below_ext E24 E24.size e27
 refine lw_v (.pointer (some ⟨b11, 4, none⟩)) (dv_fieldAddr (a := ⟨b11, 0, none⟩) (a' := ⟨b11, 4, none⟩) fo35_1 (T rfl rfl) rfl) ?_
 have H29 := (e27.blk H23)
 refine lw_e (oe_store (v := .agg #[qu (wv3 y), qu (wv2 y), qu (wv1 y), qu (wv0 y)]) (vs := [qu (wv3 y), qu (wv2 y), qu (wv1 y), qu (wv0 y)]) (l := [qu (wv3 x), qu (wv2 x), qu (wv1 x), qu (wv0 x), qu (wv3 y), qu (wv2 y), qu (wv1 y), qu (wv0 y), qu 0, qu 0, qu 0, qu 0]) (T rfl rfl) (T rfl rfl) sz33 rfl rfl rfl H29 rfl ?_)
 intro w30 s31 H32
 have E33 := below_st E28 N14 s31
 refine qN <| lw_v (.pointer (some ⟨b1, 8, none⟩)) (dv_fieldAddr (a := ⟨b1, 0, none⟩) (a' := ⟨b1, 8, none⟩) fo27_2 (T rfl rfl) rfl) ?_
 have H34 := (s31.blk (e27.blk H25) (by omega))
 refine lw_v (.agg #[qu (wv3 u), qu (wv2 u), qu (wv1 u), qu (wv0 u)]) (dv_loads (l := [qu (wv3 u), qu (wv2 u), qu (wv1 u), qu (wv0 u)]) agt25 sz25 (T rfl rfl) H34 rfl) <| lw_e (oe_callf (vs := [.agg #[qu (wv3 u), qu (wv2 u), qu (wv1 u), qu (wv0 u)]]) co21 (ar1 (T rfl rfl)) (toWide_ok (z := u)  ) ?_)
 rintro _ w35 ⟨rfl, e36⟩
 have E37 := below_ext E33 E33.size e36
 refine lw_v (.pointer (some ⟨b11, 8, none⟩)) (dv_fieldAddr (a := ⟨b11, 0, none⟩) (a' := ⟨b11, 8, none⟩) fo35_2 (T rfl rfl) rfl) ?_
 have H38 := (e36.blk H32)
 refine lw_e (oe_store (v := .agg #[qu (wv3 u), qu (wv2 u), qu (wv1 u), qu (wv0 u)]) (vs := [qu (wv3 u), qu (wv2 u), qu (wv1 u), qu (wv0 u)]) (l := (qL x y u)) (T rfl rfl) (T rfl rfl) sz33 rfl rfl rfl H38 rfl ?_)
 intro w39 s40 H41
 have E42 := below_st E37 N14 s40
 refine qN <| lw_v (.agg (qA x y u)) (dv_loads (l := (qL x y u)) agt35 sz35 (T rfl rfl) H41 rfl) ?_
 have H43 := (s40.blk (e36.blk (s31.blk (e27.blk (s22.blk (e18.blk (n13.ext.blk n8.blk)) (by omega))) (by omega))) (by omega))
 refine lw_e (oe_store (v := .agg (qA x y u)) (vs := (qL x y u)) (l := (qL x y u)) (T rfl rfl) (T rfl rfl) sz35 rfl rfl rfl H43 rfl ?_)
 intro w44 s45 H46
 have E47 := below_st E42 N9 s45
 refine lw_nil <| rk_ret Tryz.func7 (v := .agg (qA x y u)) (res1 Tryz.results7 (rv_cells (l := (qL x y u)) agt35 sz35 rfl rfl H46 rfl)) ⟨_, rfl, ?_⟩
 exact ⟨rfl, E47⟩
set_option maxHeartbeats 1000000 in
theorem l3Small_ok {w : World}  {na : Bool} {Aa : Option Addr} {la ca : Nat} {x : Int} {sx : Nat} (ha : Num 32 97 .u32 w na Aa la ca x sx) {nb : Bool} {Ab : Option Addr} {lb cb : Nat} {y : Int} {sy : Nat} (hb : Num 32 97 .u32 w nb Ab lb cb y sy) {nm : Bool} {Am : Option Addr} {lm cm : Nat} {u : Int} {su : Nat} (hm : Num 32 97 .u32 w nm Am lm cm u su) (hbsx : sx ≤ 100000) (hbsy : sy ≤ 100000) (hbsu : su ≤ 100000)  : Ct Tryz.prog 35 [.agg #[.bool na, .slice Aa la ca, .bool nb, .slice Ab lb cb, .bool nm, .slice Am lm cm]] w fun v w1 => v = .bool (decide (sm3 x y u)) ∧ Ext w w1 := by
 refine ct_run (n := 22) Tryz.func35 rfl Tryz.ntmps35 rfl ?_
 have E0 : Below w.heap.size w w := Below.refl _ _
 have lha := Num.len (by decide) ha
 have lhb := Num.len (by decide) hb
 have lhm := Num.len (by decide) hm
 refine rk_seq <| rk_reg <| lw_e (oe_box (v := .agg #[.bool na, .slice Aa la ca, .bool nb, .slice Ab lb cb, .bool nm, .slice Am lm cm]) (cs := #[.bool na, .slice Aa la ca, .bool nb, .slice Ab lb cb, .bool nm, .slice Am lm cm]) (T rfl rfl) rfl ?_)
 intro b1 w2 n3
 have N4 : w.heap.size ≤ b1 := n3.eq ▸ E0.size
 have E5 := below_ext E0 E0.size n3.ext
 refine lw_v (.bool false) (dv_assign C) <| qN <| lw_v (.pointer (some ⟨b1, 0, none⟩)) (dv_fieldAddr (a := ⟨b1, 0, none⟩) (a' := ⟨b1, 0, none⟩) fo53_0 (T rfl rfl) rfl) <| lw_v (.pointer (some ⟨b1, 1, none⟩)) (dv_fieldAddr (a := ⟨b1, 0, none⟩) (a' := ⟨b1, 1, none⟩) fo51_1 (T rfl rfl) rfl) <| lw_v (.slice Aa la ca) (dv_load1 (b := b1) (o := 1) agt49 (T rfl rfl) n3.blk rfl) ?_
 have h6 := (ha.ext n3.ext)
 refine lw_e (oe_callf (vs := [.slice Aa la ca]) co59 (ar1 (T rfl rfl)) (l1Bits_wc h6.wc (by first | omega | (simp; done) | (simp; omega))) ?_)
 rintro _ w7 ⟨rfl, e8⟩
 have E9 := below_ext E5 E5.size e8
 refine lw_v (qd (((nbits (x.natAbs : Int).toNat : Int)) ≤ 80)) (dv_leq (a := (nbits (x.natAbs : Int).toNat : Int)) (b := 80) (T rfl rfl) C) <| lw_v (qd (((nbits (x.natAbs : Int).toNat : Int)) ≤ 80)) (dv_move (T rfl rfl)) ?_
 by_cases hb10 : ((nbits ((x.natAbs : Int)).toNat : Int)) ≤ 80
 · refine lw_vy (.pointer (some ⟨b1, 2, none⟩)) (d := 8) rfl rfl (qT hb10) (dv_fieldAddr (a := ⟨b1, 0, none⟩) (a' := ⟨b1, 2, none⟩) fo53_1 (T rfl rfl) rfl) <| lw_vy (.pointer (some ⟨b1, 3, none⟩)) (d := 8) rfl rfl (qT hb10) (dv_fieldAddr (a := ⟨b1, 2, none⟩) (a' := ⟨b1, 3, none⟩) fo51_1 (T rfl rfl) rfl) ?_
   have H11 := (e8.blk n3.blk)
   refine lw_vy (.slice Ab lb cb) (d := 8) rfl rfl (qT hb10) (dv_load1 (b := b1) (o := 3) agt49 (T rfl rfl) H11 rfl) ?_
   have h12 := ((hb.ext n3.ext).ext e8)
   refine lw_ey (d := 8) rfl rfl (qT hb10) (oe_callf (vs := [.slice Ab lb cb]) co59 (ar1 (T rfl rfl)) (l1Bits_wc h12.wc (by first | omega | (simp; done) | (simp; omega))) ?_)
   rintro _ w13 ⟨rfl, e14⟩
   have E15 := below_ext E9 E9.size e14
   refine lw_vy (qd (((nbits (y.natAbs : Int).toNat : Int)) ≤ 80)) (d := 8) rfl rfl (qT hb10) (dv_leq (a := (nbits (y.natAbs : Int).toNat : Int)) (b := 80) (T rfl rfl) C) <| lw_v (qd (((nbits (y.natAbs : Int).toNat : Int)) ≤ 80)) (dv_pick_t (T rfl (qT hb10)) (T rfl rfl)) <| lw_v (qd (((nbits (y.natAbs : Int).toNat : Int)) ≤ 80)) (dv_move (T rfl rfl)) ?_
   by_cases hb16 : ((nbits ((y.natAbs : Int)).toNat : Int)) ≤ 80
   · refine lw_vy (.pointer (some ⟨b1, 4, none⟩)) (d := 15) rfl rfl (qT hb16) (dv_fieldAddr (a := ⟨b1, 0, none⟩) (a' := ⟨b1, 4, none⟩) fo53_2 (T rfl rfl) rfl) <| lw_vy (.pointer (some ⟨b1, 5, none⟩)) (d := 15) rfl rfl (qT hb16) (dv_fieldAddr (a := ⟨b1, 4, none⟩) (a' := ⟨b1, 5, none⟩) fo51_1 (T rfl rfl) rfl) ?_
     have H17 := (e14.blk H11)
     refine lw_vy (.slice Am lm cm) (d := 15) rfl rfl (qT hb16) (dv_load1 (b := b1) (o := 5) agt49 (T rfl rfl) H17 rfl) ?_
     have h18 := (((hm.ext n3.ext).ext e8).ext e14)
     refine lw_ey (d := 15) rfl rfl (qT hb16) (oe_callf (vs := [.slice Am lm cm]) co59 (ar1 (T rfl rfl)) (l1Bits_wc h18.wc (by first | omega | (simp; done) | (simp; omega))) ?_)
     rintro _ w19 ⟨rfl, e20⟩
     have E21 := below_ext E15 E15.size e20
     refine lw_vy (qd (((nbits (u.natAbs : Int).toNat : Int)) ≤ 80)) (d := 15) rfl rfl (qT hb16) (dv_leq (a := (nbits (u.natAbs : Int).toNat : Int)) (b := 80) (T rfl rfl) C) <| lw_v (qd (((nbits (u.natAbs : Int).toNat : Int)) ≤ 80)) (dv_pick_t (T rfl (qT hb16)) (T rfl rfl)) <| lw_v (qd (((nbits (u.natAbs : Int).toNat : Int)) ≤ 80)) (dv_assign (T rfl rfl)) <| lw_nil <| rk_ret Tryz.func35 (v := qd (((nbits (u.natAbs : Int).toNat : Int)) ≤ 80)) (res1 Tryz.results35 (rv_tmp rfl rfl)) ⟨_, rfl, ?_⟩
     exact ⟨(vb (by unfold sm3; omega)), E21⟩
   · refine lw_no (d := 15) rfl rfl (qF hb16) <| lw_no (d := 15) rfl rfl (qF hb16) <| lw_no (d := 15) rfl rfl (qF hb16) <| lw_no (d := 15) rfl rfl (qF hb16) <| lw_no (d := 15) rfl rfl (qF hb16) <| lw_v (.bool false) (dv_pick_f (T rfl (qF hb16)) C) <| lw_v (.bool false) (dv_assign (T rfl rfl)) <| lw_nil <| rk_ret Tryz.func35 (v := .bool false) (res1 Tryz.results35 (rv_tmp rfl rfl)) ⟨_, rfl, ?_⟩
     exact ⟨(vf (by unfold sm3; omega)), E15⟩
 · refine lw_no (d := 8) rfl rfl (qF hb10) <| lw_no (d := 8) rfl rfl (qF hb10) <| lw_no (d := 8) rfl rfl (qF hb10) <| lw_no (d := 8) rfl rfl (qF hb10) <| lw_no (d := 8) rfl rfl (qF hb10) <| lw_v (.bool false) (dv_pick_f (T rfl (qF hb10)) C) <| lw_v (.bool false) (dv_move (T rfl rfl)) <| lw_no (d := 15) rfl rfl (rfl) <| lw_no (d := 15) rfl rfl (rfl) <| lw_no (d := 15) rfl rfl (rfl) <| lw_no (d := 15) rfl rfl (rfl) ?_
   refine lw_no (d := 15) rfl rfl (rfl) <| lw_v (.bool false) (dv_pick_f (T rfl rfl) C) <| lw_v (.bool false) (dv_assign (T rfl rfl)) <| lw_nil <| rk_ret Tryz.func35 (v := .bool false) (res1 Tryz.results35 (rv_tmp rfl rfl)) ⟨_, rfl, ?_⟩
   exact ⟨(vf (by unfold sm3; omega)), E9⟩
set_option maxHeartbeats 1000000 in
theorem spot_ok {w : World}  {x y u : Int} (fx_ : fits x) (fy_ : fits y) (fu_ : fits u)   : Ct Tryz.prog 44 [.agg #[.int .u64 (wv3 x), .int .u64 (wv2 x), .int .u64 (wv1 x), .int .u64 (wv0 x), .int .u64 (wv3 y), .int .u64 (wv2 y), .int .u64 (wv1 y), .int .u64 (wv0 y), .int .u64 (wv3 u), .int .u64 (wv2 u), .int .u64 (wv1 u), .int .u64 (wv0 u)]] w fun v w1 => ∃ nr0_ A0_ l0_ c0_ nr1_ A1_ l1_ c1_ nr2_ A2_ l2_ c2_, v = .agg #[.bool nr0_, .slice A0_ l0_ c0_, .bool nr1_, .slice A1_ l1_ c1_, .bool nr2_, .slice A2_ l2_ c2_] ∧ Ext w w1 ∧ Num 64 23 .u64 w1 nr0_ A0_ l0_ c0_ (x) (256) ∧ Num 64 23 .u64 w1 nr1_ A1_ l1_ c1_ (y) (256) ∧ Num 64 23 .u64 w1 nr2_ A2_ l2_ c2_ (u) (256) := by
 refine ct_run (n := 13) Tryz.func44 rfl Tryz.ntmps44 rfl ?_
 have E0 : Below w.heap.size w w := Below.refl _ _
 refine rk_seq <| rk_reg <| lw_e (oe_box (v := .agg (qA x y u)) (cs := (qA x y u)) (T rfl rfl) rfl ?_)
 intro b1 w2 n3
 have N4 : w.heap.size ≤ b1 := n3.eq ▸ E0.size
 have E5 := below_ext E0 E0.size n3.ext
 refine lw_e (oe_alloc ze79 ?_)
 intro b6 w7 n8
 have N9 : w.heap.size ≤ b6 := n8.eq ▸ E5.size
 have : b1 < b6 := n8.eq ▸ lt_of_blk n3.blk
 have E10 := below_ext E5 E5.size n8.ext
 refine lw_nil <| rk_seq <| rk_any (fun w => w.heap[b1]? = some (.cells (qA x y u) 35)) [10] mo ?_
 intro w11 d12
 have E13 := below_ext E10 E10.size d12.ext
 have H14 := (d12.ext.blk (n8.ext.blk n3.blk))
 refine aw_pure 0 (.pointer (some ⟨b1, 0, none⟩)) rfl (by kernel_rfl) .none H14 (fun _ => dv_fieldAddr (a := ⟨b1, 0, none⟩) (a' := ⟨b1, 0, none⟩) fo35_0 (T rfl rfl) rfl) <| aw_load 1 (.agg #[qu (wv3 x), qu (wv2 x), qu (wv1 x), qu (wv0 x)]) rfl (by kernel_rfl) .none H14 (fun _ s => dv_loads (l := [qu (wv3 x), qu (wv2 x), qu (wv1 x), qu (wv0 x)]) agt33 sz33 (T rfl rfl) s rfl) <| aw_pure 3 (.pointer (some ⟨b1, 4, none⟩)) rfl (by kernel_rfl) .none H14 (fun _ => dv_fieldAddr (a := ⟨b1, 0, none⟩) (a' := ⟨b1, 4, none⟩) fo35_1 (T rfl rfl) rfl) <| aw_load 4 (.agg #[qu (wv3 y), qu (wv2 y), qu (wv1 y), qu (wv0 y)]) rfl (by kernel_rfl) .none H14 (fun _ s => dv_loads (l := [qu (wv3 y), qu (wv2 y), qu (wv1 y), qu (wv0 y)]) agt33 sz33 (T rfl rfl) s rfl) <| aw_pure 6 (.pointer (some ⟨b1, 8, none⟩)) rfl (by kernel_rfl) .none H14 (fun _ => dv_fieldAddr (a := ⟨b1, 0, none⟩) (a' := ⟨b1, 8, none⟩) fo35_2 (T rfl rfl) rfl) <| aw_load 7 (.agg #[qu (wv3 u), qu (wv2 u), qu (wv1 u), qu (wv0 u)]) rfl (by kernel_rfl) .none H14 (fun _ s => dv_loads (l := [qu (wv3 u), qu (wv2 u), qu (wv1 u), qu (wv0 u)]) agt33 sz33 (T rfl rfl) s rfl) <| aw_one 2 rfl (by kernel_rfl) .none (oe_callf (vs := [.agg #[qu (wv3 x), qu (wv2 x), qu (wv1 x), qu (wv0 x)]]) co66 (ar1 (T rfl rfl)) (wnumz_ok (z := x) fx_) ?_)
 rintro _ w20 ⟨nr15, A16, n17, c18, rfl, e21, h19⟩
 have E22 := below_ext E13 E13.size e21
 have lh19 := Num.len (by decide) h19
 have H23 := (e21.blk H14)
 refine ⟨.inr H23, ?_⟩
 refine aw_one 5 rfl (by kernel_rfl) .none (oe_callf (vs := [.agg #[qu (wv3 y), qu (wv2 y), qu (wv1 y), qu (wv0 y)]]) co66 (ar1 (T rfl rfl)) (wnumz_ok (z := y) fy_) ?_)
 rintro _ w29 ⟨nr24, A25, n26, c27, rfl, e30, h28⟩
 have E31 := below_ext E22 E22.size e30
 have lh28 := Num.len (by decide) h28
 have H32 := (e30.blk H23)
 refine ⟨.inr H32, ?_⟩
 refine aw_one 8 rfl (by kernel_rfl) .none (oe_callf (vs := [.agg #[qu (wv3 u), qu (wv2 u), qu (wv1 u), qu (wv0 u)]]) co66 (ar1 (T rfl rfl)) (wnumz_ok (z := u) fu_) ?_)
 rintro _ w38 ⟨nr33, A34, n35, c36, rfl, e39, h37⟩
 have E40 := below_ext E31 E31.size e39
 have lh37 := Num.len (by decide) h37
 have H41 := (e39.blk H32)
 refine ⟨.inr H41, ?_⟩
 refine aw_pure 9 (.agg #[.bool nr15, .slice A16 n17 c18, .bool nr24, .slice A25 n26 c27, .bool nr33, .slice A34 n35 c36]) rfl (by kernel_rfl) .none H41 (fun _ => dv_build (pv := [(0, .agg #[.bool nr15, .slice A16 n17 c18]), (1, .agg #[.bool nr24, .slice A25 n26 c27]), (2, .agg #[.bool nr33, .slice A34 n35 c36])]) (l := [.bool nr15, .slice A16 n17 c18, .bool nr24, .slice A25 n26 c27, .bool nr33, .slice A34 n35 c36]) zc79 pl79 ⟨rfl, (T rfl rfl), ⟨rfl, (T rfl rfl), ⟨rfl, (T rfl rfl), trivial⟩⟩⟩ rfl) ?_
 have H42 := (e39.blk (e30.blk (e21.blk (d12.ext.blk n8.blk))))
 refine aw_one 10 rfl (by kernel_rfl) .none (oe_store (v := .agg #[.bool nr15, .slice A16 n17 c18, .bool nr24, .slice A25 n26 c27, .bool nr33, .slice A34 n35 c36]) (vs := [.bool nr15, .slice A16 n17 c18, .bool nr24, .slice A25 n26 c27, .bool nr33, .slice A34 n35 c36]) (l := [.bool nr15, .slice A16 n17 c18, .bool nr24, .slice A25 n26 c27, .bool nr33, .slice A34 n35 c36]) (T rfl rfl) (T rfl rfl) sz79 rfl rfl rfl H42 rfl ?_)
 intro w43 s44 H45
 have E46 := below_st E40 N9 s44
 refine ⟨.inl rfl, ?_⟩
 refine aw_done (by kernel_rfl) <| rk_ret Tryz.func44 (v := .agg #[.bool nr15, .slice A16 n17 c18, .bool nr24, .slice A25 n26 c27, .bool nr33, .slice A34 n35 c36]) (res1 Tryz.results44 (rv_cells (l := [.bool nr15, .slice A16 n17 c18, .bool nr24, .slice A25 n26 c27, .bool nr33, .slice A34 n35 c36]) agt79 sz79 rfl rfl H45 rfl)) ⟨_, rfl, ?_⟩
 have h47 := (((h19.ext e30).ext e39).st s44 H42 (by decide))
 have h48 := ((h28.ext e39).st s44 H42 (by decide))
 have h49 := (h37.st s44 H42 (by decide))
 exact ⟨_, _, _, _, _, _, _, _, _, _, _, _, rfl, E46, h47.to rfl (Nat.le_refl _), h48.to rfl (Nat.le_refl _), h49.to rfl (Nat.le_refl _)⟩
set_option maxHeartbeats 1000000 in
theorem l3Of_ok {w : World}  {x y u : Int} (fx_ : fits x) (fy_ : fits y) (fu_ : fits u)   : Ct Tryz.prog 18 [.agg #[.int .u64 (wv3 x), .int .u64 (wv2 x), .int .u64 (wv1 x), .int .u64 (wv0 x), .int .u64 (wv3 y), .int .u64 (wv2 y), .int .u64 (wv1 y), .int .u64 (wv0 y), .int .u64 (wv3 u), .int .u64 (wv2 u), .int .u64 (wv1 u), .int .u64 (wv0 u)]] w fun v w1 => ∃ nr0_ A0_ l0_ c0_ nr1_ A1_ l1_ c1_ nr2_ A2_ l2_ c2_, v = .agg #[.bool nr0_, .slice A0_ l0_ c0_, .bool nr1_, .slice A1_ l1_ c1_, .bool nr2_, .slice A2_ l2_ c2_] ∧ Ext w w1 ∧ Num 32 97 .u32 w1 nr0_ A0_ l0_ c0_ (x) (256) ∧ Num 32 97 .u32 w1 nr1_ A1_ l1_ c1_ (y) (256) ∧ Num 32 97 .u32 w1 nr2_ A2_ l2_ c2_ (u) (256) := by
 refine ct_run (n := 13) Tryz.func18 rfl Tryz.ntmps18 rfl ?_
 have E0 : Below w.heap.size w w := Below.refl _ _
 refine rk_seq <| rk_reg <| lw_e (oe_box (v := .agg (qA x y u)) (cs := (qA x y u)) (T rfl rfl) rfl ?_)
 intro b1 w2 n3
 have N4 : w.heap.size ≤ b1 := n3.eq ▸ E0.size
 have E5 := below_ext E0 E0.size n3.ext
 refine lw_e (oe_alloc ze53 ?_)
 intro b6 w7 n8
 have N9 : w.heap.size ≤ b6 := n8.eq ▸ E5.size
 have : b1 < b6 := n8.eq ▸ lt_of_blk n3.blk
 have E10 := below_ext E5 E5.size n8.ext
 refine lw_nil <| rk_seq <| rk_any (fun w => w.heap[b1]? = some (.cells (qA x y u) 35)) [10] mo ?_
 intro w11 d12
 have E13 := below_ext E10 E10.size d12.ext
 have H14 := (d12.ext.blk (n8.ext.blk n3.blk))
 refine aw_pure 0 (.pointer (some ⟨b1, 0, none⟩)) rfl (by kernel_rfl) .none H14 (fun _ => dv_fieldAddr (a := ⟨b1, 0, none⟩) (a' := ⟨b1, 0, none⟩) fo35_0 (T rfl rfl) rfl) <| aw_load 1 (.agg #[qu (wv3 x), qu (wv2 x), qu (wv1 x), qu (wv0 x)]) rfl (by kernel_rfl) .none H14 (fun _ s => dv_loads (l := [qu (wv3 x), qu (wv2 x), qu (wv1 x), qu (wv0 x)]) agt33 sz33 (T rfl rfl) s rfl) <| aw_pure 3 (.pointer (some ⟨b1, 4, none⟩)) rfl (by kernel_rfl) .none H14 (fun _ => dv_fieldAddr (a := ⟨b1, 0, none⟩) (a' := ⟨b1, 4, none⟩) fo35_1 (T rfl rfl) rfl) <| aw_load 4 (.agg #[qu (wv3 y), qu (wv2 y), qu (wv1 y), qu (wv0 y)]) rfl (by kernel_rfl) .none H14 (fun _ s => dv_loads (l := [qu (wv3 y), qu (wv2 y), qu (wv1 y), qu (wv0 y)]) agt33 sz33 (T rfl rfl) s rfl) <| aw_pure 6 (.pointer (some ⟨b1, 8, none⟩)) rfl (by kernel_rfl) .none H14 (fun _ => dv_fieldAddr (a := ⟨b1, 0, none⟩) (a' := ⟨b1, 8, none⟩) fo35_2 (T rfl rfl) rfl) <| aw_load 7 (.agg #[qu (wv3 u), qu (wv2 u), qu (wv1 u), qu (wv0 u)]) rfl (by kernel_rfl) .none H14 (fun _ s => dv_loads (l := [qu (wv3 u), qu (wv2 u), qu (wv1 u), qu (wv0 u)]) agt33 sz33 (T rfl rfl) s rfl) <| aw_one 2 rfl (by kernel_rfl) .none (oe_callf (vs := [.agg #[qu (wv3 x), qu (wv2 x), qu (wv1 x), qu (wv0 x)]]) co41 (ar1 (T rfl rfl)) (l1Fromz_ok (z := x) fx_) ?_)
 rintro _ w20 ⟨nr15, A16, n17, c18, rfl, e21, h19⟩
 have E22 := below_ext E13 E13.size e21
 have lh19 := Num.len (by decide) h19
 have H23 := (e21.blk H14)
 refine ⟨.inr H23, ?_⟩
 refine aw_one 5 rfl (by kernel_rfl) .none (oe_callf (vs := [.agg #[qu (wv3 y), qu (wv2 y), qu (wv1 y), qu (wv0 y)]]) co41 (ar1 (T rfl rfl)) (l1Fromz_ok (z := y) fy_) ?_)
 rintro _ w29 ⟨nr24, A25, n26, c27, rfl, e30, h28⟩
 have E31 := below_ext E22 E22.size e30
 have lh28 := Num.len (by decide) h28
 have H32 := (e30.blk H23)
 refine ⟨.inr H32, ?_⟩
 refine aw_one 8 rfl (by kernel_rfl) .none (oe_callf (vs := [.agg #[qu (wv3 u), qu (wv2 u), qu (wv1 u), qu (wv0 u)]]) co41 (ar1 (T rfl rfl)) (l1Fromz_ok (z := u) fu_) ?_)
 rintro _ w38 ⟨nr33, A34, n35, c36, rfl, e39, h37⟩
 have E40 := below_ext E31 E31.size e39
 have lh37 := Num.len (by decide) h37
 have H41 := (e39.blk H32)
 refine ⟨.inr H41, ?_⟩
 refine aw_pure 9 (.agg #[.bool nr15, .slice A16 n17 c18, .bool nr24, .slice A25 n26 c27, .bool nr33, .slice A34 n35 c36]) rfl (by kernel_rfl) .none H41 (fun _ => dv_build (pv := [(0, .agg #[.bool nr15, .slice A16 n17 c18]), (1, .agg #[.bool nr24, .slice A25 n26 c27]), (2, .agg #[.bool nr33, .slice A34 n35 c36])]) (l := [.bool nr15, .slice A16 n17 c18, .bool nr24, .slice A25 n26 c27, .bool nr33, .slice A34 n35 c36]) zc53 pl53 ⟨rfl, (T rfl rfl), ⟨rfl, (T rfl rfl), ⟨rfl, (T rfl rfl), trivial⟩⟩⟩ rfl) ?_
 have H42 := (e39.blk (e30.blk (e21.blk (d12.ext.blk n8.blk))))
 refine aw_one 10 rfl (by kernel_rfl) .none (oe_store (v := .agg #[.bool nr15, .slice A16 n17 c18, .bool nr24, .slice A25 n26 c27, .bool nr33, .slice A34 n35 c36]) (vs := [.bool nr15, .slice A16 n17 c18, .bool nr24, .slice A25 n26 c27, .bool nr33, .slice A34 n35 c36]) (l := [.bool nr15, .slice A16 n17 c18, .bool nr24, .slice A25 n26 c27, .bool nr33, .slice A34 n35 c36]) (T rfl rfl) (T rfl rfl) sz53 rfl rfl rfl H42 rfl ?_)
 intro w43 s44 H45
 have E46 := below_st E40 N9 s44
 refine ⟨.inl rfl, ?_⟩
 refine aw_done (by kernel_rfl) <| rk_ret Tryz.func18 (v := .agg #[.bool nr15, .slice A16 n17 c18, .bool nr24, .slice A25 n26 c27, .bool nr33, .slice A34 n35 c36]) (res1 Tryz.results18 (rv_cells (l := [.bool nr15, .slice A16 n17 c18, .bool nr24, .slice A25 n26 c27, .bool nr33, .slice A34 n35 c36]) agt53 sz53 rfl rfl H45 rfl)) ⟨_, rfl, ?_⟩
 have h47 := (((h19.ext e30).ext e39).st s44 H42 (by decide))
 have h48 := ((h28.ext e39).st s44 H42 (by decide))
 have h49 := (h37.st s44 H42 (by decide))
 exact ⟨_, _, _, _, _, _, _, _, _, _, _, _, rfl, E46, h47.to rfl (Nat.le_refl _), h48.to rfl (Nat.le_refl _), h49.to rfl (Nat.le_refl _)⟩
set_option maxHeartbeats 1000000 in
theorem sPointOk_ok {w : World} {x y u : Int} (fx_ : fits x) (fy_ : fits y) (fu_ : fits u)  : Ct Tryz.prog 14 [.agg #[.int .u64 (wv3 x), .int .u64 (wv2 x), .int .u64 (wv1 x), .int .u64 (wv0 x), .int .u64 (wv3 y), .int .u64 (wv2 y), .int .u64 (wv1 y), .int .u64 (wv0 y), .int .u64 (wv3 u), .int .u64 (wv2 u), .int .u64 (wv1 u), .int .u64 (wv0 u)]] w fun v w1 => v = .bool (decide (pOk x y u)) ∧ Ext w w1 := by
 refine ct_run (n := 27) Tryz.func14 rfl Tryz.ntmps14 rfl ?_
 have E0 : Below w.heap.size w w := Below.refl _ _
 refine rk_seq <| rk_reg <| lw_e (oe_box (v := .agg (qA x y u)) (cs := (qA x y u)) (T rfl rfl) rfl ?_)
 intro b1 w2 n3
 have N4 : w.heap.size ≤ b1 := n3.eq ▸ E0.size
 have E5 := below_ext E0 E0.size n3.ext
 refine lw_v (.bool false) (dv_assign C) <| qN <| lw_v (.agg (qA x y u)) (dv_loads (l := (qL x y u)) agt35 sz35 (T rfl rfl) n3.blk rfl) <| lw_e (oe_callf (vs := [.agg (qA x y u)]) co18 (ar1 (T rfl rfl)) (l3Of_ok fx_ fy_ fu_  ) ?_)
 rintro _ w21 ⟨nr6, A7, n8, c9, nr10, A11, n12, c13, nr14, A15, n16, c17, rfl, e22, h18, h19, h20⟩
 have E23 := below_ext E5 E5.size e22
 have lh18 := Num.len (by decide) h18
 have lh19 := Num.len (by decide) h19
 have lh20 := Num.len (by decide) h20
 refine lw_e (oe_alloc ze53 ?_)
 intro b24 w25 n26
 have N27 : w.heap.size ≤ b24 := n26.eq ▸ E23.size
 have H28 := (e22.blk n3.blk)
 have : b1 < b24 := n26.eq ▸ lt_of_blk H28
 have E29 := below_ext E23 E23.size n26.ext
 refine lw_e (oe_store (v := .agg #[.bool nr6, .slice A7 n8 c9, .bool nr10, .slice A11 n12 c13, .bool nr14, .slice A15 n16 c17]) (vs := [.bool nr6, .slice A7 n8 c9, .bool nr10, .slice A11 n12 c13, .bool nr14, .slice A15 n16 c17]) (l := [.bool nr6, .slice A7 n8 c9, .bool nr10, .slice A11 n12 c13, .bool nr14, .slice A15 n16 c17]) (T rfl rfl) (T rfl rfl) sz53 rfl rfl rfl n26.blk rfl ?_)
 intro w30 s31 H32
 have E33 := below_st E29 N27 s31
 refine lw_nil <| rk_seq <| rk_any (fun w => w.heap[b24]? = some (.cells #[.bool nr6, .slice A7 n8 c9, .bool nr10, .slice A11 n12 c13, .bool nr14, .slice A15 n16 c17] 53)) [21] mo ?_
 intro w34 d35
 have E36 := below_ext E33 E33.size d35.ext
 have H37 := (d35.ext.blk H32)
 refine aw_pure 0 (.pointer (some ⟨b24, 4, none⟩)) rfl (by kernel_rfl) .none H37 (fun _ => dv_fieldAddr (a := ⟨b24, 0, none⟩) (a' := ⟨b24, 4, none⟩) fo53_2 (T rfl rfl) rfl) <| aw_load 1 (.agg #[.bool nr14, .slice A15 n16 c17]) rfl (by kernel_rfl) .none H37 (fun _ s => dv_loads (l := [.bool nr14, .slice A15 n16 c17]) agt51 sz51 (T rfl rfl) s rfl) ?_
 have h38 := (((h20.ext n26.ext).st s31 n26.blk (by decide)).ext d35.ext)
 refine aw_one 2 rfl (by kernel_rfl) .none (oe_callf (vs := [.agg #[.bool nr14, .slice A15 n16 c17]]) co34 (ar1 (T rfl rfl)) (l1Sign_ok h38 ) ?_)
 rintro _ w39 ⟨rfl, e40⟩
 have E41 := below_ext E36 E36.size e40
 have H42 := (e40.blk H37)
 refine ⟨.inr H42, ?_⟩
 refine aw_pure 3 (qd (0 < (sgnI u))) rfl (by kernel_rfl) .none H42 (fun _ => dv_gtr (a := sgnI u) (b := 0) (T rfl rfl) C) <| aw_pure 4 (qd (0 < (sgnI u))) rfl (by kernel_rfl) .none H42 (fun _ => dv_move (T rfl rfl)) ?_
 by_cases hb43 : 0 < (sgnI u)
 · refine aw_load 5 (.agg #[.bool nr6, .slice A7 n8 c9, .bool nr10, .slice A11 n12 c13, .bool nr14, .slice A15 n16 c17]) rfl (by kernel_rfl) (.yes (d := 10) rfl rfl (qT hb43)) H42 (fun _ s => dv_loads (l := [.bool nr6, .slice A7 n8 c9, .bool nr10, .slice A11 n12 c13, .bool nr14, .slice A15 n16 c17]) agt53 sz53 (T rfl rfl) s rfl) ?_
   have h44 := ((((h18.ext n26.ext).st s31 n26.blk (by decide)).ext d35.ext).ext e40)
   have h45 := ((((h19.ext n26.ext).st s31 n26.blk (by decide)).ext d35.ext).ext e40)
   have h46 := (h38.ext e40)
   refine aw_one 6 rfl (by kernel_rfl) (.yes (d := 10) rfl rfl (qT hb43)) (oe_callf (vs := [.agg #[.bool nr6, .slice A7 n8 c9, .bool nr10, .slice A11 n12 c13, .bool nr14, .slice A15 n16 c17]]) co35 (ar1 (T rfl rfl)) (l3Small_ok h44 h45 h46 (by first | decide | omega) (by first | decide | omega) (by first | decide | omega) ) ?_)
   rintro _ w47 ⟨rfl, e48⟩
   have E49 := below_ext E41 E41.size e48
   have H50 := (e48.blk H42)
   refine ⟨.inr H50, ?_⟩
   refine aw_pure 7 (qd (sm3 x y u)) rfl (by kernel_rfl) .none H50 (fun _ => dv_pick_t (T rfl (qT hb43)) (T rfl rfl)) <| aw_pure 8 (qd (sm3 x y u)) rfl (by kernel_rfl) .none H50 (fun _ => dv_move (T rfl rfl)) ?_
   by_cases hb51 : sm3 x y u
   · refine aw_pure 9 (.pointer (some ⟨b24, 0, none⟩)) rfl (by kernel_rfl) (.yes (d := 14) rfl rfl (qT hb51)) H50 (fun _ => dv_fieldAddr (a := ⟨b24, 0, none⟩) (a' := ⟨b24, 0, none⟩) fo53_0 (T rfl rfl) rfl) <| aw_load 10 (.agg #[.bool nr6, .slice A7 n8 c9]) rfl (by kernel_rfl) (.yes (d := 14) rfl rfl (qT hb51)) H50 (fun _ s => dv_loads (l := [.bool nr6, .slice A7 n8 c9]) agt51 sz51 (T rfl rfl) s rfl) <| aw_pure 11 (.pointer (some ⟨b24, 2, none⟩)) rfl (by kernel_rfl) (.yes (d := 14) rfl rfl (qT hb51)) H50 (fun _ => dv_fieldAddr (a := ⟨b24, 0, none⟩) (a' := ⟨b24, 2, none⟩) fo53_1 (T rfl rfl) rfl) <| aw_load 12 (.agg #[.bool nr10, .slice A11 n12 c13]) rfl (by kernel_rfl) (.yes (d := 14) rfl rfl (qT hb51)) H50 (fun _ s => dv_loads (l := [.bool nr10, .slice A11 n12 c13]) agt51 sz51 (T rfl rfl) s rfl) <| aw_pure 14 (.pointer (some ⟨b24, 4, none⟩)) rfl (by kernel_rfl) (.yes (d := 14) rfl rfl (qT hb51)) H50 (fun _ => dv_fieldAddr (a := ⟨b24, 0, none⟩) (a' := ⟨b24, 4, none⟩) fo53_2 (T rfl rfl) rfl) <| aw_load 15 (.agg #[.bool nr14, .slice A15 n16 c17]) rfl (by kernel_rfl) (.yes (d := 14) rfl rfl (qT hb51)) H50 (fun _ s => dv_loads (l := [.bool nr14, .slice A15 n16 c17]) agt51 sz51 (T rfl rfl) s rfl) ?_
     have h52 := (h44.ext e48)
     have h53 := (h45.ext e48)
     refine aw_one 13 rfl (by kernel_rfl) (.yes (d := 14) rfl rfl (qT hb51)) (oe_callf (vs := [.agg #[.bool nr6, .slice A7 n8 c9], .agg #[.bool nr10, .slice A11 n12 c13]]) co37 (ar2 (T rfl rfl) (T rfl rfl)) (l1Gcd_ok h52 h53 (by first | decide | omega) (by first | decide | omega)) ?_)
     rintro _ w59 ⟨nr54, A55, n56, c57, rfl, e60, h58⟩
     have E61 := below_ext E49 E49.size e60
     have lh58 := Num.len (by decide) h58
     have H62 := (e60.blk H50)
     refine ⟨.inr H62, ?_⟩
     have h63 := ((h46.ext e48).ext e60)
     refine aw_one 16 rfl (by kernel_rfl) (.yes (d := 14) rfl rfl (qT hb51)) (oe_callf (vs := [.agg #[.bool nr54, .slice A55 n56 c57], .agg #[.bool nr14, .slice A15 n16 c17]]) co37 (ar2 (T rfl rfl) (T rfl rfl)) (l1Gcd_ok h58 h63 (by first | decide | omega) (by first | decide | omega)) ?_)
     rintro _ w69 ⟨nr64, A65, n66, c67, rfl, e70, h68⟩
     have E71 := below_ext E61 E61.size e70
     have lh68 := Num.len (by decide) h68
     have H72 := (e70.blk H62)
     refine ⟨.inr H72, ?_⟩
     refine aw_one 17 rfl (by kernel_rfl) (.yes (d := 14) rfl rfl (qT hb51)) (oe_callf (vs := [qi 1]) co38 (ar1 C) (l1Int_ok  (by omega)) ?_)
     rintro _ w78 ⟨nr73, A74, n75, c76, rfl, e79, h77⟩
     have E80 := below_ext E71 E71.size e79
     have lh77 := Num.len (by decide) h77
     have H81 := (e79.blk H72)
     refine ⟨.inr H81, ?_⟩
     have h82 := (h68.ext e79)
     refine aw_one 18 rfl (by kernel_rfl) (.yes (d := 14) rfl rfl (qT hb51)) (oe_callf (vs := [.agg #[.bool nr64, .slice A65 n66 c67], .agg #[.bool nr73, .slice A74 n75 c76]]) co36 (ar2 (T rfl rfl) (T rfl rfl)) (l1Cmp_ok h82 h77 (by first | decide | omega) (by first | decide | omega)) ?_)
     rintro _ w83 ⟨rfl, e84⟩
     have E85 := below_ext E80 E80.size e84
     have H86 := (e84.blk H81)
     refine ⟨.inr H86, ?_⟩
     refine aw_pure 19 (qd ((sgnI ((gI (gI x y) u) - 1)) = 0)) rfl (by kernel_rfl) (.yes (d := 14) rfl rfl (qT hb51)) H86 (fun _ => dv_eql (a := sgnI ((gI (gI x y) u) - 1)) (b := 0) (T rfl rfl) C) <| aw_pure 20 (qd ((sgnI ((gI (gI x y) u) - 1)) = 0)) rfl (by kernel_rfl) .none H86 (fun _ => dv_pick_t (T rfl (qT hb51)) (T rfl rfl)) <| aw_last 21 (qd ((sgnI ((gI (gI x y) u) - 1)) = 0)) rfl (by kernel_rfl) .none (fun _ => dv_assign (T rfl rfl)) <| aw_done (by kernel_rfl) <| rk_ret Tryz.func14 (v := qd ((sgnI ((gI (gI x y) u) - 1)) = 0)) (res1 Tryz.results14 (rv_tmp rfl rfl)) ⟨_, rfl, ?_⟩
     have h1 : sm3 x y u := by first | assumption | exact sm3_iff.2 (mx3.1 ‹_›)
     have h2 : 0 < u := sgnI_gt.1 (by assumption)
     have h3 := @sgnI_zero (gI3 x y u - 1)
     exact ⟨(vb ⟨fun hh => ⟨h2, h1, by have := h3.1 hh; omega⟩, fun hh => h3.2 (by have := hh.2.2; omega)⟩), E85⟩
   · refine aw_no 9 rfl (by kernel_rfl) (d := 14) rfl rfl (qF hb51) H50 <| aw_no 10 rfl (by kernel_rfl) (d := 14) rfl rfl (qF hb51) H50 <| aw_no 11 rfl (by kernel_rfl) (d := 14) rfl rfl (qF hb51) H50 <| aw_no 12 rfl (by kernel_rfl) (d := 14) rfl rfl (qF hb51) H50 <| aw_no 13 rfl (by kernel_rfl) (d := 14) rfl rfl (qF hb51) H50 <| aw_no 14 rfl (by kernel_rfl) (d := 14) rfl rfl (qF hb51) H50 <| aw_no 15 rfl (by kernel_rfl) (d := 14) rfl rfl (qF hb51) H50 <| aw_no 16 rfl (by kernel_rfl) (d := 14) rfl rfl (qF hb51) H50 <| aw_no 17 rfl (by kernel_rfl) (d := 14) rfl rfl (qF hb51) H50 <| aw_no 18 rfl (by kernel_rfl) (d := 14) rfl rfl (qF hb51) H50 <| aw_no 19 rfl (by kernel_rfl) (d := 14) rfl rfl (qF hb51) H50 ?_
     refine aw_pure 20 (.bool false) rfl (by kernel_rfl) .none H50 (fun _ => dv_pick_f (T rfl (qF hb51)) C) <| aw_last 21 (.bool false) rfl (by kernel_rfl) .none (fun _ => dv_assign (T rfl rfl)) <| aw_done (by kernel_rfl) <| rk_ret Tryz.func14 (v := .bool false) (res1 Tryz.results14 (rv_tmp rfl rfl)) ⟨_, rfl, ?_⟩
     exact ⟨(vf (by intro hh; have h1 := sgnI_gt.2 hh.1; have h2 := hh.2.1; first | (exact absurd h2 (by assumption)) | (exact absurd (mx3.2 (sm3_iff.1 h2)) (by assumption)) | contradiction | omega)), E49⟩
 · refine aw_no 5 rfl (by kernel_rfl) (d := 10) rfl rfl (qF hb43) H42 <| aw_no 6 rfl (by kernel_rfl) (d := 10) rfl rfl (qF hb43) H42 <| aw_pure 7 (.bool false) rfl (by kernel_rfl) .none H42 (fun _ => dv_pick_f (T rfl (qF hb43)) C) <| aw_pure 8 (.bool false) rfl (by kernel_rfl) .none H42 (fun _ => dv_move (T rfl rfl)) <| aw_no 9 rfl (by kernel_rfl) (d := 14) rfl rfl (rfl) H42 <| aw_no 10 rfl (by kernel_rfl) (d := 14) rfl rfl (rfl) H42 <| aw_no 11 rfl (by kernel_rfl) (d := 14) rfl rfl (rfl) H42 <| aw_no 12 rfl (by kernel_rfl) (d := 14) rfl rfl (rfl) H42 <| aw_no 13 rfl (by kernel_rfl) (d := 14) rfl rfl (rfl) H42 <| aw_no 14 rfl (by kernel_rfl) (d := 14) rfl rfl (rfl) H42 <| aw_no 15 rfl (by kernel_rfl) (d := 14) rfl rfl (rfl) H42 ?_
   refine aw_no 16 rfl (by kernel_rfl) (d := 14) rfl rfl (rfl) H42 <| aw_no 17 rfl (by kernel_rfl) (d := 14) rfl rfl (rfl) H42 <| aw_no 18 rfl (by kernel_rfl) (d := 14) rfl rfl (rfl) H42 <| aw_no 19 rfl (by kernel_rfl) (d := 14) rfl rfl (rfl) H42 <| aw_pure 20 (.bool false) rfl (by kernel_rfl) .none H42 (fun _ => dv_pick_f (T rfl rfl) C) <| aw_last 21 (.bool false) rfl (by kernel_rfl) .none (fun _ => dv_assign (T rfl rfl)) <| aw_done (by kernel_rfl) <| rk_ret Tryz.func14 (v := .bool false) (res1 Tryz.results14 (rv_tmp rfl rfl)) ⟨_, rfl, ?_⟩
   exact ⟨(vf (by intro hh; have h1 := sgnI_gt.2 hh.1; have h2 := hh.2.1; first | (exact absurd h2 (by assumption)) | (exact absurd (mx3.2 (sm3_iff.1 h2)) (by assumption)) | contradiction | omega)), E41⟩
set_option maxHeartbeats 1000000 in
theorem iPointOk_ok {w : World} {x y u : Int} (fx_ : fits x) (fy_ : fits y) (fu_ : fits u)  : Ct Tryz.prog 23 [.agg #[.int .u64 (wv3 x), .int .u64 (wv2 x), .int .u64 (wv1 x), .int .u64 (wv0 x), .int .u64 (wv3 y), .int .u64 (wv2 y), .int .u64 (wv1 y), .int .u64 (wv0 y), .int .u64 (wv3 u), .int .u64 (wv2 u), .int .u64 (wv1 u), .int .u64 (wv0 u)]] w fun v w1 => v = .bool (decide (pOk x y u)) ∧ Ext w w1 := by
 refine ct_run (n := 36) Tryz.func23 rfl Tryz.ntmps23 rfl ?_
 have E0 : Below w.heap.size w w := Below.refl _ _
 refine rk_seq <| rk_reg <| lw_e (oe_box (v := .agg (qA x y u)) (cs := (qA x y u)) (T rfl rfl) rfl ?_)
 intro b1 w2 n3
 have N4 : w.heap.size ≤ b1 := n3.eq ▸ E0.size
 have E5 := below_ext E0 E0.size n3.ext
 refine lw_v (.bool false) (dv_assign C) <| qN <| lw_v (.agg (qA x y u)) (dv_loads (l := (qL x y u)) agt35 sz35 (T rfl rfl) n3.blk rfl) <| lw_e (oe_callf (vs := [.agg (qA x y u)]) co44 (ar1 (T rfl rfl)) (spot_ok fx_ fy_ fu_  ) ?_)
 rintro _ w21 ⟨nr6, A7, n8, c9, nr10, A11, n12, c13, nr14, A15, n16, c17, rfl, e22, h18, h19, h20⟩
 have E23 := below_ext E5 E5.size e22
 have lh18 := Num.len (by decide) h18
 have lh19 := Num.len (by decide) h19
 have lh20 := Num.len (by decide) h20
 refine lw_e (oe_alloc ze79 ?_)
 intro b24 w25 n26
 have N27 : w.heap.size ≤ b24 := n26.eq ▸ E23.size
 have H28 := (e22.blk n3.blk)
 have : b1 < b24 := n26.eq ▸ lt_of_blk H28
 have E29 := below_ext E23 E23.size n26.ext
 refine lw_e (oe_store (v := .agg #[.bool nr6, .slice A7 n8 c9, .bool nr10, .slice A11 n12 c13, .bool nr14, .slice A15 n16 c17]) (vs := [.bool nr6, .slice A7 n8 c9, .bool nr10, .slice A11 n12 c13, .bool nr14, .slice A15 n16 c17]) (l := [.bool nr6, .slice A7 n8 c9, .bool nr10, .slice A11 n12 c13, .bool nr14, .slice A15 n16 c17]) (T rfl rfl) (T rfl rfl) sz79 rfl rfl rfl n26.blk rfl ?_)
 intro w30 s31 H32
 have E33 := below_st E29 N27 s31
 refine lw_nil <| rk_seq <| rk_any (fun w => w.heap[b24]? = some (.cells #[.bool nr6, .slice A7 n8 c9, .bool nr10, .slice A11 n12 c13, .bool nr14, .slice A15 n16 c17] 79)) [30] mo ?_
 intro w34 d35
 have E36 := below_ext E33 E33.size d35.ext
 have H37 := (d35.ext.blk H32)
 refine aw_pure 0 (.pointer (some ⟨b24, 4, none⟩)) rfl (by kernel_rfl) .none H37 (fun _ => dv_fieldAddr (a := ⟨b24, 0, none⟩) (a' := ⟨b24, 4, none⟩) fo79_2 (T rfl rfl) rfl) <| aw_load 1 (.agg #[.bool nr14, .slice A15 n16 c17]) rfl (by kernel_rfl) .none H37 (fun _ s => dv_loads (l := [.bool nr14, .slice A15 n16 c17]) agt77 sz77 (T rfl rfl) s rfl) ?_
 have h38 := (((h20.ext n26.ext).st s31 n26.blk (by decide)).ext d35.ext)
 refine aw_one 2 rfl (by kernel_rfl) .none (oe_callf (vs := [.agg #[.bool nr14, .slice A15 n16 c17]]) co45 (ar1 (T rfl rfl)) (nsign_ok h38 ) ?_)
 rintro _ w39 ⟨rfl, e40⟩
 have E41 := below_ext E36 E36.size e40
 have H42 := (e40.blk H37)
 refine ⟨.inr H42, ?_⟩
 refine aw_pure 3 (qd (0 < (sgnI u))) rfl (by kernel_rfl) .none H42 (fun _ => dv_gtr (a := sgnI u) (b := 0) (T rfl rfl) C) <| aw_pure 4 (qd (0 < (sgnI u))) rfl (by kernel_rfl) .none H42 (fun _ => dv_move (T rfl rfl)) ?_
 by_cases hb43 : 0 < (sgnI u)
 · refine aw_pure 5 (.pointer (some ⟨b24, 0, none⟩)) rfl (by kernel_rfl) (.yes (d := 10) rfl rfl (qT hb43)) H42 (fun _ => dv_fieldAddr (a := ⟨b24, 0, none⟩) (a' := ⟨b24, 0, none⟩) fo79_0 (T rfl rfl) rfl) <| aw_load 6 (.agg #[.bool nr6, .slice A7 n8 c9]) rfl (by kernel_rfl) (.yes (d := 10) rfl rfl (qT hb43)) H42 (fun _ s => dv_loads (l := [.bool nr6, .slice A7 n8 c9]) agt77 sz77 (T rfl rfl) s rfl) <| aw_pure 8 (.pointer (some ⟨b24, 2, none⟩)) rfl (by kernel_rfl) (.yes (d := 10) rfl rfl (qT hb43)) H42 (fun _ => dv_fieldAddr (a := ⟨b24, 0, none⟩) (a' := ⟨b24, 2, none⟩) fo79_1 (T rfl rfl) rfl) <| aw_load 9 (.agg #[.bool nr10, .slice A11 n12 c13]) rfl (by kernel_rfl) (.yes (d := 10) rfl rfl (qT hb43)) H42 (fun _ s => dv_loads (l := [.bool nr10, .slice A11 n12 c13]) agt77 sz77 (T rfl rfl) s rfl) <| aw_pure 11 (.pointer (some ⟨b24, 4, none⟩)) rfl (by kernel_rfl) (.yes (d := 10) rfl rfl (qT hb43)) H42 (fun _ => dv_fieldAddr (a := ⟨b24, 0, none⟩) (a' := ⟨b24, 4, none⟩) fo79_2 (T rfl rfl) rfl) <| aw_load 12 (.agg #[.bool nr14, .slice A15 n16 c17]) rfl (by kernel_rfl) (.yes (d := 10) rfl rfl (qT hb43)) H42 (fun _ s => dv_loads (l := [.bool nr14, .slice A15 n16 c17]) agt77 sz77 (T rfl rfl) s rfl) ?_
   have h44 := ((((h18.ext n26.ext).st s31 n26.blk (by decide)).ext d35.ext).ext e40)
   refine aw_one 7 rfl (by kernel_rfl) (.yes (d := 10) rfl rfl (qT hb43)) (oe_callf (vs := [.agg #[.bool nr6, .slice A7 n8 c9]]) co46 (ar1 (T rfl rfl)) (nsize_num h44 (by first | omega | (simp; done) | (simp; omega))) ?_)
   rintro _ w45 ⟨rfl, e46⟩
   have E47 := below_ext E41 E41.size e46
   have H48 := (e46.blk H42)
   refine ⟨.inr H48, ?_⟩
   have h49 := (((((h19.ext n26.ext).st s31 n26.blk (by decide)).ext d35.ext).ext e40).ext e46)
   refine aw_one 10 rfl (by kernel_rfl) (.yes (d := 10) rfl rfl (qT hb43)) (oe_callf (vs := [.agg #[.bool nr10, .slice A11 n12 c13]]) co46 (ar1 (T rfl rfl)) (nsize_num h49 (by first | omega | (simp; done) | (simp; omega))) ?_)
   rintro _ w50 ⟨rfl, e51⟩
   have E52 := below_ext E47 E47.size e51
   have H53 := (e51.blk H48)
   refine ⟨.inr H53, ?_⟩
   have h54 := (((h38.ext e40).ext e46).ext e51)
   refine aw_one 13 rfl (by kernel_rfl) (.yes (d := 10) rfl rfl (qT hb43)) (oe_callf (vs := [.agg #[.bool nr14, .slice A15 n16 c17]]) co46 (ar1 (T rfl rfl)) (nsize_num h54 (by first | omega | (simp; done) | (simp; omega))) ?_)
   rintro _ w55 ⟨rfl, e56⟩
   have E57 := below_ext E52 E52.size e56
   have H58 := (e56.blk H53)
   refine ⟨.inr H58, ?_⟩
   refine aw_pure 14 (qi (mx (mx ((nbits (x).natAbs : Int)) ((nbits (y).natAbs : Int))) ((nbits (u).natAbs : Int)))) rfl (by kernel_rfl) (.yes (d := 10) rfl rfl (qT hb43)) H58 (fun _ => dv_max3 (a := (nbits (x).natAbs : Int)) (b := (nbits (y).natAbs : Int)) (c := (nbits (u).natAbs : Int)) (T rfl rfl) (T rfl rfl) (T rfl rfl)) <| aw_pure 15 (qd ((mx (mx ((nbits (x).natAbs : Int)) ((nbits (y).natAbs : Int))) ((nbits (u).natAbs : Int))) ≤ 80)) rfl (by kernel_rfl) (.yes (d := 10) rfl rfl (qT hb43)) H58 (fun _ => dv_leq (a := mx (mx ((nbits (x).natAbs : Int)) ((nbits (y).natAbs : Int))) ((nbits (u).natAbs : Int))) (b := 80) (T rfl rfl) C) <| aw_pure 16 (qd ((mx (mx ((nbits (x).natAbs : Int)) ((nbits (y).natAbs : Int))) ((nbits (u).natAbs : Int))) ≤ 80)) rfl (by kernel_rfl) .none H58 (fun _ => dv_pick_t (T rfl (qT hb43)) (T rfl rfl)) <| aw_pure 17 (qd ((mx (mx ((nbits (x).natAbs : Int)) ((nbits (y).natAbs : Int))) ((nbits (u).natAbs : Int))) ≤ 80)) rfl (by kernel_rfl) .none H58 (fun _ => dv_move (T rfl rfl)) ?_
   by_cases hb59 : (mx (mx ((nbits (x).natAbs : Int)) ((nbits (y).natAbs : Int))) ((nbits (u).natAbs : Int))) ≤ 80
   · refine aw_pure 18 (.pointer (some ⟨b24, 0, none⟩)) rfl (by kernel_rfl) (.yes (d := 23) rfl rfl (qT hb59)) H58 (fun _ => dv_fieldAddr (a := ⟨b24, 0, none⟩) (a' := ⟨b24, 0, none⟩) fo79_0 (T rfl rfl) rfl) <| aw_load 19 (.agg #[.bool nr6, .slice A7 n8 c9]) rfl (by kernel_rfl) (.yes (d := 23) rfl rfl (qT hb59)) H58 (fun _ s => dv_loads (l := [.bool nr6, .slice A7 n8 c9]) agt77 sz77 (T rfl rfl) s rfl) <| aw_pure 20 (.pointer (some ⟨b24, 2, none⟩)) rfl (by kernel_rfl) (.yes (d := 23) rfl rfl (qT hb59)) H58 (fun _ => dv_fieldAddr (a := ⟨b24, 0, none⟩) (a' := ⟨b24, 2, none⟩) fo79_1 (T rfl rfl) rfl) <| aw_load 21 (.agg #[.bool nr10, .slice A11 n12 c13]) rfl (by kernel_rfl) (.yes (d := 23) rfl rfl (qT hb59)) H58 (fun _ s => dv_loads (l := [.bool nr10, .slice A11 n12 c13]) agt77 sz77 (T rfl rfl) s rfl) <| aw_pure 22 (.pointer (some ⟨b24, 4, none⟩)) rfl (by kernel_rfl) (.yes (d := 23) rfl rfl (qT hb59)) H58 (fun _ => dv_fieldAddr (a := ⟨b24, 0, none⟩) (a' := ⟨b24, 4, none⟩) fo79_2 (T rfl rfl) rfl) <| aw_load 23 (.agg #[.bool nr14, .slice A15 n16 c17]) rfl (by kernel_rfl) (.yes (d := 23) rfl rfl (qT hb59)) H58 (fun _ s => dv_loads (l := [.bool nr14, .slice A15 n16 c17]) agt77 sz77 (T rfl rfl) s rfl) <| aw_one 24 rfl (by kernel_rfl) (.yes (d := 23) rfl rfl (qT hb59)) (oe_buildSlice (pv := [(0, .agg #[.bool nr6, .slice A7 n8 c9]), (1, .agg #[.bool nr10, .slice A11 n12 c13]), (2, .agg #[.bool nr14, .slice A15 n16 c17])]) (init := [.bool false, .slice none 0 0, .bool false, .slice none 0 0, .bool false, .slice none 0 0]) (l := [.bool nr6, .slice A7 n8 c9, .bool nr10, .slice A11 n12 c13, .bool nr14, .slice A15 n16 c17]) us102 sz77 rfl rfl zc77 (by kernel_rfl) ⟨rfl, (T rfl rfl), ⟨rfl, (T rfl rfl), ⟨rfl, (T rfl rfl), trivial⟩⟩⟩ rfl ?_)
     intro b60 w61 n62
     have N63 : w.heap.size ≤ b60 := n62.eq ▸ E57.size
     have : b24 < b60 := n62.eq ▸ lt_of_blk H58
     have E64 := below_ext E57 E57.size n62.ext
     have H65 := (n62.ext.blk H58)
     refine ⟨.inr H65, ?_⟩
     have h66 := ((((h44.ext e46).ext e51).ext e56).ext n62.ext)
     have h67 := (((h49.ext e51).ext e56).ext n62.ext)
     have h68 := ((h54.ext e56).ext n62.ext)
     refine aw_one 25 rfl (by kernel_rfl) (.yes (d := 23) rfl rfl (qT hb59)) (oe_callf (vs := [.slice (some ⟨b60, 0, none⟩) 3 3]) co47 (ar1 (T rfl rfl)) (gcd3_ok h66 h67 h68 (by first | decide | omega) (by first | decide | omega) (by first | decide | omega) n62.blk) ?_)
     rintro _ w74 ⟨nr69, A70, n71, c72, rfl, e75, h73⟩
     have E76 := below_ext E64 E64.size e75
     have lh73 := Num.len (by decide) h73
     have H77 := (e75.blk H65)
     refine ⟨.inr H77, ?_⟩
     refine aw_one 26 rfl (by kernel_rfl) (.yes (d := 23) rfl rfl (qT hb59)) (oe_callf (vs := [qi 1]) co49 (ar1 C) (whole_ok  (by omega)) ?_)
     rintro _ w83 ⟨nr78, A79, n80, c81, rfl, e84, h82⟩
     have E85 := below_ext E76 E76.size e84
     have lh82 := Num.len (by decide) h82
     have H86 := (e84.blk H77)
     refine ⟨.inr H86, ?_⟩
     have h87 := (h73.ext e84)
     refine aw_one 27 rfl (by kernel_rfl) (.yes (d := 23) rfl rfl (qT hb59)) (oe_callf (vs := [.agg #[.bool nr69, .slice A70 n71 c72], .agg #[.bool nr78, .slice A79 n80 c81]]) co48 (ar2 (T rfl rfl) (T rfl rfl)) (ncmp_ok h87 h82 (by first | decide | omega) (by first | decide | omega)) ?_)
     rintro _ w88 ⟨rfl, e89⟩
     have E90 := below_ext E85 E85.size e89
     have H91 := (e89.blk H86)
     refine ⟨.inr H91, ?_⟩
     refine aw_pure 28 (qd ((sgnI ((gI3 x y u) - 1)) = 0)) rfl (by kernel_rfl) (.yes (d := 23) rfl rfl (qT hb59)) H91 (fun _ => dv_eql (a := sgnI ((gI3 x y u) - 1)) (b := 0) (T rfl rfl) C) <| aw_pure 29 (qd ((sgnI ((gI3 x y u) - 1)) = 0)) rfl (by kernel_rfl) .none H91 (fun _ => dv_pick_t (T rfl (qT hb59)) (T rfl rfl)) <| aw_last 30 (qd ((sgnI ((gI3 x y u) - 1)) = 0)) rfl (by kernel_rfl) .none (fun _ => dv_assign (T rfl rfl)) <| aw_done (by kernel_rfl) <| rk_ret Tryz.func23 (v := qd ((sgnI ((gI3 x y u) - 1)) = 0)) (res1 Tryz.results23 (rv_tmp rfl rfl)) ⟨_, rfl, ?_⟩
     have h1 : sm3 x y u := by first | assumption | exact sm3_iff.2 (mx3.1 ‹_›)
     have h2 : 0 < u := sgnI_gt.1 (by assumption)
     have h3 := @sgnI_zero (gI3 x y u - 1)
     exact ⟨(vb ⟨fun hh => ⟨h2, h1, by have := h3.1 hh; omega⟩, fun hh => h3.2 (by have := hh.2.2; omega)⟩), E90⟩
   · refine aw_no 18 rfl (by kernel_rfl) (d := 23) rfl rfl (qF hb59) H58 <| aw_no 19 rfl (by kernel_rfl) (d := 23) rfl rfl (qF hb59) H58 <| aw_no 20 rfl (by kernel_rfl) (d := 23) rfl rfl (qF hb59) H58 <| aw_no 21 rfl (by kernel_rfl) (d := 23) rfl rfl (qF hb59) H58 <| aw_no 22 rfl (by kernel_rfl) (d := 23) rfl rfl (qF hb59) H58 <| aw_no 23 rfl (by kernel_rfl) (d := 23) rfl rfl (qF hb59) H58 <| aw_no 24 rfl (by kernel_rfl) (d := 23) rfl rfl (qF hb59) H58 <| aw_no 25 rfl (by kernel_rfl) (d := 23) rfl rfl (qF hb59) H58 <| aw_no 26 rfl (by kernel_rfl) (d := 23) rfl rfl (qF hb59) H58 <| aw_no 27 rfl (by kernel_rfl) (d := 23) rfl rfl (qF hb59) H58 <| aw_no 28 rfl (by kernel_rfl) (d := 23) rfl rfl (qF hb59) H58 ?_
     refine aw_pure 29 (.bool false) rfl (by kernel_rfl) .none H58 (fun _ => dv_pick_f (T rfl (qF hb59)) C) <| aw_last 30 (.bool false) rfl (by kernel_rfl) .none (fun _ => dv_assign (T rfl rfl)) <| aw_done (by kernel_rfl) <| rk_ret Tryz.func23 (v := .bool false) (res1 Tryz.results23 (rv_tmp rfl rfl)) ⟨_, rfl, ?_⟩
     exact ⟨(vf (by intro hh; have h1 := sgnI_gt.2 hh.1; have h2 := hh.2.1; first | (exact absurd h2 (by assumption)) | (exact absurd (mx3.2 (sm3_iff.1 h2)) (by assumption)) | contradiction | omega)), E57⟩
 · refine aw_no 5 rfl (by kernel_rfl) (d := 10) rfl rfl (qF hb43) H42 <| aw_no 6 rfl (by kernel_rfl) (d := 10) rfl rfl (qF hb43) H42 <| aw_no 7 rfl (by kernel_rfl) (d := 10) rfl rfl (qF hb43) H42 <| aw_no 8 rfl (by kernel_rfl) (d := 10) rfl rfl (qF hb43) H42 <| aw_no 9 rfl (by kernel_rfl) (d := 10) rfl rfl (qF hb43) H42 <| aw_no 10 rfl (by kernel_rfl) (d := 10) rfl rfl (qF hb43) H42 <| aw_no 11 rfl (by kernel_rfl) (d := 10) rfl rfl (qF hb43) H42 <| aw_no 12 rfl (by kernel_rfl) (d := 10) rfl rfl (qF hb43) H42 <| aw_no 13 rfl (by kernel_rfl) (d := 10) rfl rfl (qF hb43) H42 <| aw_no 14 rfl (by kernel_rfl) (d := 10) rfl rfl (qF hb43) H42 <| aw_no 15 rfl (by kernel_rfl) (d := 10) rfl rfl (qF hb43) H42 ?_
   refine aw_pure 16 (.bool false) rfl (by kernel_rfl) .none H42 (fun _ => dv_pick_f (T rfl (qF hb43)) C) <| aw_pure 17 (.bool false) rfl (by kernel_rfl) .none H42 (fun _ => dv_move (T rfl rfl)) <| aw_no 18 rfl (by kernel_rfl) (d := 23) rfl rfl (rfl) H42 <| aw_no 19 rfl (by kernel_rfl) (d := 23) rfl rfl (rfl) H42 <| aw_no 20 rfl (by kernel_rfl) (d := 23) rfl rfl (rfl) H42 <| aw_no 21 rfl (by kernel_rfl) (d := 23) rfl rfl (rfl) H42 <| aw_no 22 rfl (by kernel_rfl) (d := 23) rfl rfl (rfl) H42 <| aw_no 23 rfl (by kernel_rfl) (d := 23) rfl rfl (rfl) H42 <| aw_no 24 rfl (by kernel_rfl) (d := 23) rfl rfl (rfl) H42 <| aw_no 25 rfl (by kernel_rfl) (d := 23) rfl rfl (rfl) H42 <| aw_no 26 rfl (by kernel_rfl) (d := 23) rfl rfl (rfl) H42 ?_
   refine aw_no 27 rfl (by kernel_rfl) (d := 23) rfl rfl (rfl) H42 <| aw_no 28 rfl (by kernel_rfl) (d := 23) rfl rfl (rfl) H42 <| aw_pure 29 (.bool false) rfl (by kernel_rfl) .none H42 (fun _ => dv_pick_f (T rfl rfl) C) <| aw_last 30 (.bool false) rfl (by kernel_rfl) .none (fun _ => dv_assign (T rfl rfl)) <| aw_done (by kernel_rfl) <| rk_ret Tryz.func23 (v := .bool false) (res1 Tryz.results23 (rv_tmp rfl rfl)) ⟨_, rfl, ?_⟩
   exact ⟨(vf (by intro hh; have h1 := sgnI_gt.2 hh.1; have h2 := hh.2.1; first | (exact absurd h2 (by assumption)) | (exact absurd (mx3.2 (sm3_iff.1 h2)) (by assumption)) | contradiction | omega)), E41⟩
set_option maxHeartbeats 1000000 in
theorem l3CmpX_ok {w : World}  {na : Bool} {Aa : Option Addr} {la ca : Nat} {x : Int} {sx : Nat} (ha : Num 32 97 .u32 w na Aa la ca x sx) {nb : Bool} {Ab : Option Addr} {lb cb : Nat} {y : Int} {sy : Nat} (hb : Num 32 97 .u32 w nb Ab lb cb y sy) {nm : Bool} {Am : Option Addr} {lm cm : Nat} {u : Int} {su : Nat} (hm : Num 32 97 .u32 w nm Am lm cm u su) {ne : Bool} {Ae : Option Addr} {le ce : Nat} {p : Int} {sp : Nat} (he : Num 32 97 .u32 w ne Ae le ce p sp) {nf : Bool} {Af : Option Addr} {lf cf : Nat} {q : Int} {sq : Nat} (hf : Num 32 97 .u32 w nf Af lf cf q sq) {ng : Bool} {Ag : Option Addr} {lg cg : Nat} {r : Int} {sr : Nat} (hg : Num 32 97 .u32 w ng Ag lg cg r sr) (hbsx : sx ≤ 100000) (hbsy : sy ≤ 100000) (hbsu : su ≤ 100000) (hbsp : sp ≤ 100000) (hbsq : sq ≤ 100000) (hbsr : sr ≤ 100000)  : Ct Tryz.prog 39 [.agg #[.bool na, .slice Aa la ca, .bool nb, .slice Ab lb cb, .bool nm, .slice Am lm cm], .agg #[.bool ne, .slice Ae le ce, .bool nf, .slice Af lf cf, .bool ng, .slice Ag lg cg]] w fun v w1 => v = .int .i64 (sgnI (x * r - p * u)) ∧ Ext w w1 := by
 refine ct_run (n := 16) Tryz.func39 rfl Tryz.ntmps39 rfl ?_
 have E0 : Below w.heap.size w w := Below.refl _ _
 have lha := Num.len (by decide) ha
 have lhb := Num.len (by decide) hb
 have lhm := Num.len (by decide) hm
 have lhe := Num.len (by decide) he
 have lhf := Num.len (by decide) hf
 have lhg := Num.len (by decide) hg
 refine rk_seq <| rk_reg <| lw_e (oe_box (v := .agg #[.bool na, .slice Aa la ca, .bool nb, .slice Ab lb cb, .bool nm, .slice Am lm cm]) (cs := #[.bool na, .slice Aa la ca, .bool nb, .slice Ab lb cb, .bool nm, .slice Am lm cm]) (T rfl rfl) rfl ?_)
 intro b1 w2 n3
 have N4 : w.heap.size ≤ b1 := n3.eq ▸ E0.size
 have E5 := below_ext E0 E0.size n3.ext
 refine lw_e (oe_box (v := .agg #[.bool ne, .slice Ae le ce, .bool nf, .slice Af lf cf, .bool ng, .slice Ag lg cg]) (cs := #[.bool ne, .slice Ae le ce, .bool nf, .slice Af lf cf, .bool ng, .slice Ag lg cg]) (T rfl rfl) rfl ?_)
 intro b6 w7 n8
 have N9 : w.heap.size ≤ b6 := n8.eq ▸ E5.size
 have : b1 < b6 := n8.eq ▸ lt_of_blk n3.blk
 have E10 := below_ext E5 E5.size n8.ext
 refine lw_v (qi 0) (dv_assign C) <| lw_nil <| rk_seq <| rk_any (fun w => w.heap[b1]? = some (.cells #[.bool na, .slice Aa la ca, .bool nb, .slice Ab lb cb, .bool nm, .slice Am lm cm] 53) ∧ w.heap[b6]? = some (.cells #[.bool ne, .slice Ae le ce, .bool nf, .slice Af lf cf, .bool ng, .slice Ag lg cg] 53)) [11] mo ?_
 intro w11 d12
 have E13 := below_ext E10 E10.size d12.ext
 have H14 := (d12.ext.blk (n8.ext.blk n3.blk))
 have H15 := (d12.ext.blk n8.blk)
 refine aw_pure 0 (.pointer (some ⟨b1, 0, none⟩)) rfl (by kernel_rfl) .none ⟨H14, H15⟩ (fun _ => dv_fieldAddr (a := ⟨b1, 0, none⟩) (a' := ⟨b1, 0, none⟩) fo53_0 (T rfl rfl) rfl) <| aw_load 1 (.agg #[.bool na, .slice Aa la ca]) rfl (by kernel_rfl) .none ⟨H14, H15⟩ (fun _ s => dv_loads (l := [.bool na, .slice Aa la ca]) agt51 sz51 (T rfl rfl) s.1 rfl) <| aw_pure 2 (.pointer (some ⟨b6, 4, none⟩)) rfl (by kernel_rfl) .none ⟨H14, H15⟩ (fun _ => dv_fieldAddr (a := ⟨b6, 0, none⟩) (a' := ⟨b6, 4, none⟩) fo53_2 (T rfl rfl) rfl) <| aw_load 3 (.agg #[.bool ng, .slice Ag lg cg]) rfl (by kernel_rfl) .none ⟨H14, H15⟩ (fun _ s => dv_loads (l := [.bool ng, .slice Ag lg cg]) agt51 sz51 (T rfl rfl) s.2 rfl) <| aw_pure 5 (.pointer (some ⟨b6, 0, none⟩)) rfl (by kernel_rfl) .none ⟨H14, H15⟩ (fun _ => dv_fieldAddr (a := ⟨b6, 0, none⟩) (a' := ⟨b6, 0, none⟩) fo53_0 (T rfl rfl) rfl) <| aw_load 6 (.agg #[.bool ne, .slice Ae le ce]) rfl (by kernel_rfl) .none ⟨H14, H15⟩ (fun _ s => dv_loads (l := [.bool ne, .slice Ae le ce]) agt51 sz51 (T rfl rfl) s.2 rfl) <| aw_pure 7 (.pointer (some ⟨b1, 4, none⟩)) rfl (by kernel_rfl) .none ⟨H14, H15⟩ (fun _ => dv_fieldAddr (a := ⟨b1, 0, none⟩) (a' := ⟨b1, 4, none⟩) fo53_2 (T rfl rfl) rfl) <| aw_load 8 (.agg #[.bool nm, .slice Am lm cm]) rfl (by kernel_rfl) .none ⟨H14, H15⟩ (fun _ s => dv_loads (l := [.bool nm, .slice Am lm cm]) agt51 sz51 (T rfl rfl) s.1 rfl) ?_
 have h16 := (((ha.ext n3.ext).ext n8.ext).ext d12.ext)
 have h17 := (((hg.ext n3.ext).ext n8.ext).ext d12.ext)
 refine aw_one 4 rfl (by kernel_rfl) .none (oe_callf (vs := [.agg #[.bool na, .slice Aa la ca], .agg #[.bool ng, .slice Ag lg cg]]) co63 (ar2 (T rfl rfl) (T rfl rfl)) (l1Mul_ok h16 h17 (by first | decide | omega) (by first | decide | omega)) ?_)
 rintro _ w23 ⟨nr18, A19, n20, c21, rfl, e24, h22⟩
 have E25 := below_ext E13 E13.size e24
 have lh22 := Num.len (by decide) h22
 have H26 := (e24.blk H14)
 have H27 := (e24.blk H15)
 refine ⟨.inr ⟨H26, H27⟩, ?_⟩
 have h28 := ((((he.ext n3.ext).ext n8.ext).ext d12.ext).ext e24)
 have h29 := ((((hm.ext n3.ext).ext n8.ext).ext d12.ext).ext e24)
 refine aw_one 9 rfl (by kernel_rfl) .none (oe_callf (vs := [.agg #[.bool ne, .slice Ae le ce], .agg #[.bool nm, .slice Am lm cm]]) co63 (ar2 (T rfl rfl) (T rfl rfl)) (l1Mul_ok h28 h29 (by first | decide | omega) (by first | decide | omega)) ?_)
 rintro _ w35 ⟨nr30, A31, n32, c33, rfl, e36, h34⟩
 have E37 := below_ext E25 E25.size e36
 have lh34 := Num.len (by decide) h34
 have H38 := (e36.blk H26)
 have H39 := (e36.blk H27)
 refine ⟨.inr ⟨H38, H39⟩, ?_⟩
 have h40 := (h22.ext e36)
 refine aw_one 10 rfl (by kernel_rfl) .none (oe_callf (vs := [.agg #[.bool nr18, .slice A19 n20 c21], .agg #[.bool nr30, .slice A31 n32 c33]]) co36 (ar2 (T rfl rfl) (T rfl rfl)) (l1Cmp_ok h40 h34 (by first | decide | omega) (by first | decide | omega)) ?_)
 rintro _ w41 ⟨rfl, e42⟩
 have E43 := below_ext E37 E37.size e42
 have H44 := (e42.blk H38)
 have H45 := (e42.blk H39)
 refine ⟨.inr ⟨H44, H45⟩, ?_⟩
 refine aw_last 11 (qi (sgnI ((x * r) - (p * u)))) rfl (by kernel_rfl) .none (fun _ => dv_assign (T rfl rfl)) <| aw_done (by kernel_rfl) <| rk_ret Tryz.func39 (v := qi (sgnI ((x * r) - (p * u)))) (res1 Tryz.results39 (rv_tmp rfl rfl)) ⟨_, rfl, ?_⟩
 exact ⟨(vi (by rfl)), E43⟩
set_option maxHeartbeats 1000000 in
theorem l3CmpY_ok {w : World}  {na : Bool} {Aa : Option Addr} {la ca : Nat} {x : Int} {sx : Nat} (ha : Num 32 97 .u32 w na Aa la ca x sx) {nb : Bool} {Ab : Option Addr} {lb cb : Nat} {y : Int} {sy : Nat} (hb : Num 32 97 .u32 w nb Ab lb cb y sy) {nm : Bool} {Am : Option Addr} {lm cm : Nat} {u : Int} {su : Nat} (hm : Num 32 97 .u32 w nm Am lm cm u su) {ne : Bool} {Ae : Option Addr} {le ce : Nat} {p : Int} {sp : Nat} (he : Num 32 97 .u32 w ne Ae le ce p sp) {nf : Bool} {Af : Option Addr} {lf cf : Nat} {q : Int} {sq : Nat} (hf : Num 32 97 .u32 w nf Af lf cf q sq) {ng : Bool} {Ag : Option Addr} {lg cg : Nat} {r : Int} {sr : Nat} (hg : Num 32 97 .u32 w ng Ag lg cg r sr) (hbsx : sx ≤ 100000) (hbsy : sy ≤ 100000) (hbsu : su ≤ 100000) (hbsp : sp ≤ 100000) (hbsq : sq ≤ 100000) (hbsr : sr ≤ 100000)  : Ct Tryz.prog 40 [.agg #[.bool na, .slice Aa la ca, .bool nb, .slice Ab lb cb, .bool nm, .slice Am lm cm], .agg #[.bool ne, .slice Ae le ce, .bool nf, .slice Af lf cf, .bool ng, .slice Ag lg cg]] w fun v w1 => v = .int .i64 (sgnI (y * r - q * u)) ∧ Ext w w1 := by
 refine ct_run (n := 16) Tryz.func40 rfl Tryz.ntmps40 rfl ?_
 have E0 : Below w.heap.size w w := Below.refl _ _
 have lha := Num.len (by decide) ha
 have lhb := Num.len (by decide) hb
 have lhm := Num.len (by decide) hm
 have lhe := Num.len (by decide) he
 have lhf := Num.len (by decide) hf
 have lhg := Num.len (by decide) hg
 refine rk_seq <| rk_reg <| lw_e (oe_box (v := .agg #[.bool na, .slice Aa la ca, .bool nb, .slice Ab lb cb, .bool nm, .slice Am lm cm]) (cs := #[.bool na, .slice Aa la ca, .bool nb, .slice Ab lb cb, .bool nm, .slice Am lm cm]) (T rfl rfl) rfl ?_)
 intro b1 w2 n3
 have N4 : w.heap.size ≤ b1 := n3.eq ▸ E0.size
 have E5 := below_ext E0 E0.size n3.ext
 refine lw_e (oe_box (v := .agg #[.bool ne, .slice Ae le ce, .bool nf, .slice Af lf cf, .bool ng, .slice Ag lg cg]) (cs := #[.bool ne, .slice Ae le ce, .bool nf, .slice Af lf cf, .bool ng, .slice Ag lg cg]) (T rfl rfl) rfl ?_)
 intro b6 w7 n8
 have N9 : w.heap.size ≤ b6 := n8.eq ▸ E5.size
 have : b1 < b6 := n8.eq ▸ lt_of_blk n3.blk
 have E10 := below_ext E5 E5.size n8.ext
 refine lw_v (qi 0) (dv_assign C) <| lw_nil <| rk_seq <| rk_any (fun w => w.heap[b1]? = some (.cells #[.bool na, .slice Aa la ca, .bool nb, .slice Ab lb cb, .bool nm, .slice Am lm cm] 53) ∧ w.heap[b6]? = some (.cells #[.bool ne, .slice Ae le ce, .bool nf, .slice Af lf cf, .bool ng, .slice Ag lg cg] 53)) [11] mo ?_
 intro w11 d12
 have E13 := below_ext E10 E10.size d12.ext
 have H14 := (d12.ext.blk (n8.ext.blk n3.blk))
 have H15 := (d12.ext.blk n8.blk)
 refine aw_pure 0 (.pointer (some ⟨b1, 2, none⟩)) rfl (by kernel_rfl) .none ⟨H14, H15⟩ (fun _ => dv_fieldAddr (a := ⟨b1, 0, none⟩) (a' := ⟨b1, 2, none⟩) fo53_1 (T rfl rfl) rfl) <| aw_load 1 (.agg #[.bool nb, .slice Ab lb cb]) rfl (by kernel_rfl) .none ⟨H14, H15⟩ (fun _ s => dv_loads (l := [.bool nb, .slice Ab lb cb]) agt51 sz51 (T rfl rfl) s.1 rfl) <| aw_pure 2 (.pointer (some ⟨b6, 4, none⟩)) rfl (by kernel_rfl) .none ⟨H14, H15⟩ (fun _ => dv_fieldAddr (a := ⟨b6, 0, none⟩) (a' := ⟨b6, 4, none⟩) fo53_2 (T rfl rfl) rfl) <| aw_load 3 (.agg #[.bool ng, .slice Ag lg cg]) rfl (by kernel_rfl) .none ⟨H14, H15⟩ (fun _ s => dv_loads (l := [.bool ng, .slice Ag lg cg]) agt51 sz51 (T rfl rfl) s.2 rfl) <| aw_pure 5 (.pointer (some ⟨b6, 2, none⟩)) rfl (by kernel_rfl) .none ⟨H14, H15⟩ (fun _ => dv_fieldAddr (a := ⟨b6, 0, none⟩) (a' := ⟨b6, 2, none⟩) fo53_1 (T rfl rfl) rfl) <| aw_load 6 (.agg #[.bool nf, .slice Af lf cf]) rfl (by kernel_rfl) .none ⟨H14, H15⟩ (fun _ s => dv_loads (l := [.bool nf, .slice Af lf cf]) agt51 sz51 (T rfl rfl) s.2 rfl) <| aw_pure 7 (.pointer (some ⟨b1, 4, none⟩)) rfl (by kernel_rfl) .none ⟨H14, H15⟩ (fun _ => dv_fieldAddr (a := ⟨b1, 0, none⟩) (a' := ⟨b1, 4, none⟩) fo53_2 (T rfl rfl) rfl) <| aw_load 8 (.agg #[.bool nm, .slice Am lm cm]) rfl (by kernel_rfl) .none ⟨H14, H15⟩ (fun _ s => dv_loads (l := [.bool nm, .slice Am lm cm]) agt51 sz51 (T rfl rfl) s.1 rfl) ?_
 have h16 := (((hb.ext n3.ext).ext n8.ext).ext d12.ext)
 have h17 := (((hg.ext n3.ext).ext n8.ext).ext d12.ext)
 refine aw_one 4 rfl (by kernel_rfl) .none (oe_callf (vs := [.agg #[.bool nb, .slice Ab lb cb], .agg #[.bool ng, .slice Ag lg cg]]) co63 (ar2 (T rfl rfl) (T rfl rfl)) (l1Mul_ok h16 h17 (by first | decide | omega) (by first | decide | omega)) ?_)
 rintro _ w23 ⟨nr18, A19, n20, c21, rfl, e24, h22⟩
 have E25 := below_ext E13 E13.size e24
 have lh22 := Num.len (by decide) h22
 have H26 := (e24.blk H14)
 have H27 := (e24.blk H15)
 refine ⟨.inr ⟨H26, H27⟩, ?_⟩
 have h28 := ((((hf.ext n3.ext).ext n8.ext).ext d12.ext).ext e24)
 have h29 := ((((hm.ext n3.ext).ext n8.ext).ext d12.ext).ext e24)
 refine aw_one 9 rfl (by kernel_rfl) .none (oe_callf (vs := [.agg #[.bool nf, .slice Af lf cf], .agg #[.bool nm, .slice Am lm cm]]) co63 (ar2 (T rfl rfl) (T rfl rfl)) (l1Mul_ok h28 h29 (by first | decide | omega) (by first | decide | omega)) ?_)
 rintro _ w35 ⟨nr30, A31, n32, c33, rfl, e36, h34⟩
 have E37 := below_ext E25 E25.size e36
 have lh34 := Num.len (by decide) h34
 have H38 := (e36.blk H26)
 have H39 := (e36.blk H27)
 refine ⟨.inr ⟨H38, H39⟩, ?_⟩
 have h40 := (h22.ext e36)
 refine aw_one 10 rfl (by kernel_rfl) .none (oe_callf (vs := [.agg #[.bool nr18, .slice A19 n20 c21], .agg #[.bool nr30, .slice A31 n32 c33]]) co36 (ar2 (T rfl rfl) (T rfl rfl)) (l1Cmp_ok h40 h34 (by first | decide | omega) (by first | decide | omega)) ?_)
 rintro _ w41 ⟨rfl, e42⟩
 have E43 := below_ext E37 E37.size e42
 have H44 := (e42.blk H38)
 have H45 := (e42.blk H39)
 refine ⟨.inr ⟨H44, H45⟩, ?_⟩
 refine aw_last 11 (qi (sgnI ((y * r) - (q * u)))) rfl (by kernel_rfl) .none (fun _ => dv_assign (T rfl rfl)) <| aw_done (by kernel_rfl) <| rk_ret Tryz.func40 (v := qi (sgnI ((y * r) - (q * u)))) (res1 Tryz.results40 (rv_tmp rfl rfl)) ⟨_, rfl, ?_⟩
 exact ⟨(vi (by rfl)), E43⟩
set_option maxHeartbeats 1000000 in
theorem l3Cmp_ok {w : World}  {na : Bool} {Aa : Option Addr} {la ca : Nat} {x : Int} {sx : Nat} (ha : Num 32 97 .u32 w na Aa la ca x sx) {nb : Bool} {Ab : Option Addr} {lb cb : Nat} {y : Int} {sy : Nat} (hb : Num 32 97 .u32 w nb Ab lb cb y sy) {nm : Bool} {Am : Option Addr} {lm cm : Nat} {u : Int} {su : Nat} (hm : Num 32 97 .u32 w nm Am lm cm u su) {ne : Bool} {Ae : Option Addr} {le ce : Nat} {p : Int} {sp : Nat} (he : Num 32 97 .u32 w ne Ae le ce p sp) {nf : Bool} {Af : Option Addr} {lf cf : Nat} {q : Int} {sq : Nat} (hf : Num 32 97 .u32 w nf Af lf cf q sq) {ng : Bool} {Ag : Option Addr} {lg cg : Nat} {r : Int} {sr : Nat} (hg : Num 32 97 .u32 w ng Ag lg cg r sr) (hbsx : sx ≤ 100000) (hbsy : sy ≤ 100000) (hbsu : su ≤ 100000) (hbsp : sp ≤ 100000) (hbsq : sq ≤ 100000) (hbsr : sr ≤ 100000)  : Ct Tryz.prog 17 [.agg #[.bool na, .slice Aa la ca, .bool nb, .slice Ab lb cb, .bool nm, .slice Am lm cm], .agg #[.bool ne, .slice Ae le ce, .bool nf, .slice Af lf cf, .bool ng, .slice Ag lg cg]] w fun v w1 => v = .int .i64 (pc x y u p q r) ∧ Ext w w1 := by
 refine ct_run (n := 15) Tryz.func17 rfl Tryz.ntmps17 rfl ?_
 have E0 : Below w.heap.size w w := Below.refl _ _
 have lha := Num.len (by decide) ha
 have lhb := Num.len (by decide) hb
 have lhm := Num.len (by decide) hm
 have lhe := Num.len (by decide) he
 have lhf := Num.len (by decide) hf
 have lhg := Num.len (by decide) hg
 refine rk_seq <| rk_reg <| lw_e (oe_box (v := .agg #[.bool na, .slice Aa la ca, .bool nb, .slice Ab lb cb, .bool nm, .slice Am lm cm]) (cs := #[.bool na, .slice Aa la ca, .bool nb, .slice Ab lb cb, .bool nm, .slice Am lm cm]) (T rfl rfl) rfl ?_)
 intro b1 w2 n3
 have N4 : w.heap.size ≤ b1 := n3.eq ▸ E0.size
 have E5 := below_ext E0 E0.size n3.ext
 refine lw_e (oe_box (v := .agg #[.bool ne, .slice Ae le ce, .bool nf, .slice Af lf cf, .bool ng, .slice Ag lg cg]) (cs := #[.bool ne, .slice Ae le ce, .bool nf, .slice Af lf cf, .bool ng, .slice Ag lg cg]) (T rfl rfl) rfl ?_)
 intro b6 w7 n8
 have N9 : w.heap.size ≤ b6 := n8.eq ▸ E5.size
 have : b1 < b6 := n8.eq ▸ lt_of_blk n3.blk
 have E10 := below_ext E5 E5.size n8.ext
 refine lw_v (qi 0) (dv_assign C) <| qN ?_
 have H11 := (n8.ext.blk n3.blk)
 refine lw_v (.agg #[.bool na, .slice Aa la ca, .bool nb, .slice Ab lb cb, .bool nm, .slice Am lm cm]) (dv_loads (l := [.bool na, .slice Aa la ca, .bool nb, .slice Ab lb cb, .bool nm, .slice Am lm cm]) agt53 sz53 (T rfl rfl) H11 rfl) <| lw_v (.agg #[.bool ne, .slice Ae le ce, .bool nf, .slice Af lf cf, .bool ng, .slice Ag lg cg]) (dv_loads (l := [.bool ne, .slice Ae le ce, .bool nf, .slice Af lf cf, .bool ng, .slice Ag lg cg]) agt53 sz53 (T rfl rfl) n8.blk rfl) ?_
 have h12 := ((ha.ext n3.ext).ext n8.ext)
 have h13 := ((hb.ext n3.ext).ext n8.ext)
 have h14 := ((hm.ext n3.ext).ext n8.ext)
 have h15 := ((he.ext n3.ext).ext n8.ext)
 have h16 := ((hf.ext n3.ext).ext n8.ext)
 have h17 := ((hg.ext n3.ext).ext n8.ext)
 refine lw_e (oe_callf (vs := [.agg #[.bool na, .slice Aa la ca, .bool nb, .slice Ab lb cb, .bool nm, .slice Am lm cm], .agg #[.bool ne, .slice Ae le ce, .bool nf, .slice Af lf cf, .bool ng, .slice Ag lg cg]]) co39 (ar2 (T rfl rfl) (T rfl rfl)) (l3CmpX_ok h12 h13 h14 h15 h16 h17 (by first | decide | omega) (by first | decide | omega) (by first | decide | omega) (by first | decide | omega) (by first | decide | omega) (by first | decide | omega) ) ?_)
 rintro _ w18 ⟨rfl, e19⟩
 have E20 := below_ext E10 E10.size e19
 refine lw_v (qi (sgnI (x * r - p * u))) (dv_assign (T rfl rfl)) <| lw_nil <| rk_seq <| rk_seq <| rk_reg <| lw_v (qi (sgnI (x * r - p * u))) (dv_move (T rfl rfl)) <| lw_v (qd ((sgnI (x * r - p * u)) ≠ 0)) (dv_neq (a := sgnI (x * r - p * u)) (b := 0) (T rfl rfl) C) <| lw_nil ?_
 by_cases hb21 : (sgnI (x * r - p * u)) ≠ 0
 · refine rk_ct (T rfl (qT hb21)) <| rk_seq <| rk_reg <| lw_v (qi (sgnI (x * r - p * u))) (dv_move (T rfl rfl)) <| lw_v (qi (sgnI (x * r - p * u))) (dv_assign (T rfl rfl)) <| lw_nil <| rk_ret Tryz.func17 (v := qi (sgnI (x * r - p * u))) (res1 Tryz.results17 (rv_tmp rfl rfl)) ⟨_, rfl, ?_⟩
   exact ⟨(vi (by unfold pc; first | rw [if_pos (by assumption)] | rw [if_neg (by assumption)])), E20⟩
 · refine rk_cf (T rfl (qF hb21)) <| rk_skip <| rk_seq <| rk_reg ?_
   have H22 := (e19.blk H11)
   refine lw_v (.agg #[.bool na, .slice Aa la ca, .bool nb, .slice Ab lb cb, .bool nm, .slice Am lm cm]) (dv_loads (l := [.bool na, .slice Aa la ca, .bool nb, .slice Ab lb cb, .bool nm, .slice Am lm cm]) agt53 sz53 (T rfl rfl) H22 rfl) ?_
   have H23 := (e19.blk n8.blk)
   refine lw_v (.agg #[.bool ne, .slice Ae le ce, .bool nf, .slice Af lf cf, .bool ng, .slice Ag lg cg]) (dv_loads (l := [.bool ne, .slice Ae le ce, .bool nf, .slice Af lf cf, .bool ng, .slice Ag lg cg]) agt53 sz53 (T rfl rfl) H23 rfl) ?_
   have h24 := (h12.ext e19)
   have h25 := (h13.ext e19)
   have h26 := (h14.ext e19)
   have h27 := (h15.ext e19)
   have h28 := (h16.ext e19)
   have h29 := (h17.ext e19)
   refine lw_e (oe_callf (vs := [.agg #[.bool na, .slice Aa la ca, .bool nb, .slice Ab lb cb, .bool nm, .slice Am lm cm], .agg #[.bool ne, .slice Ae le ce, .bool nf, .slice Af lf cf, .bool ng, .slice Ag lg cg]]) co40 (ar2 (T rfl rfl) (T rfl rfl)) (l3CmpY_ok h24 h25 h26 h27 h28 h29 (by first | decide | omega) (by first | decide | omega) (by first | decide | omega) (by first | decide | omega) (by first | decide | omega) (by first | decide | omega) ) ?_)
   rintro _ w30 ⟨rfl, e31⟩
   have E32 := below_ext E20 E20.size e31
   refine lw_v (qi (sgnI (y * r - q * u))) (dv_assign (T rfl rfl)) <| lw_nil <| rk_ret Tryz.func17 (v := qi (sgnI (y * r - q * u))) (res1 Tryz.results17 (rv_tmp rfl rfl)) ⟨_, rfl, ?_⟩
   exact ⟨(vi (by unfold pc; first | rw [if_pos (by assumption)] | rw [if_neg (by assumption)])), E32⟩
set_option maxHeartbeats 1000000 in
theorem cmpPoints_ok {w : World} {x y u p q r : Int} (fx_ : fits x) (fy_ : fits y) (fu_ : fits u) (fp_ : fits p) (fq_ : fits q) (fr_ : fits r)  : Ct Tryz.prog 26 [.agg #[.int .u64 (wv3 x), .int .u64 (wv2 x), .int .u64 (wv1 x), .int .u64 (wv0 x), .int .u64 (wv3 y), .int .u64 (wv2 y), .int .u64 (wv1 y), .int .u64 (wv0 y), .int .u64 (wv3 u), .int .u64 (wv2 u), .int .u64 (wv1 u), .int .u64 (wv0 u)], .agg #[.int .u64 (wv3 p), .int .u64 (wv2 p), .int .u64 (wv1 p), .int .u64 (wv0 p), .int .u64 (wv3 q), .int .u64 (wv2 q), .int .u64 (wv1 q), .int .u64 (wv0 q), .int .u64 (wv3 r), .int .u64 (wv2 r), .int .u64 (wv1 r), .int .u64 (wv0 r)]] w fun v w1 => v = .int .i64 (pc x y u p q r) ∧ Ext w w1 := by
 refine ct_run (n := 40) Tryz.func26 rfl Tryz.ntmps26 rfl ?_
 have E0 : Below w.heap.size w w := Below.refl _ _
 refine rk_seq <| rk_reg <| lw_e (oe_box (v := .agg (qA x y u)) (cs := (qA x y u)) (T rfl rfl) rfl ?_)
 intro b1 w2 n3
 have N4 : w.heap.size ≤ b1 := n3.eq ▸ E0.size
 have E5 := below_ext E0 E0.size n3.ext
 refine lw_e (oe_box (v := .agg (qA p q r)) (cs := (qA p q r)) (T rfl rfl) rfl ?_)
 intro b6 w7 n8
 have N9 : w.heap.size ≤ b6 := n8.eq ▸ E5.size
 have : b1 < b6 := n8.eq ▸ lt_of_blk n3.blk
 have E10 := below_ext E5 E5.size n8.ext
 refine lw_v (qi 0) (dv_assign C) <| lw_nil <| rk_seq <| rk_seq <| rk_reg ?_
 have H11 := (n8.ext.blk n3.blk)
 refine lw_v (.agg (qA x y u)) (dv_loads (l := (qL x y u)) agt35 sz35 (T rfl rfl) H11 rfl) <| lw_v (.agg (qA p q r)) (dv_loads (l := (qL p q r)) agt35 sz35 (T rfl rfl) n8.blk rfl) <| lw_v (qd (([wv3 x, wv2 x, wv1 x, wv0 x, wv3 y, wv2 y, wv1 y, wv0 y, wv3 u, wv2 u, wv1 u, wv0 u] : List Int) = [wv3 p, wv2 p, wv1 p, wv0 p, wv3 q, wv2 q, wv1 q, wv0 q, wv3 r, wv2 r, wv1 r, wv0 r])) (dv_eqln (k := .u64) (la := [wv3 x, wv2 x, wv1 x, wv0 x, wv3 y, wv2 y, wv1 y, wv0 y, wv3 u, wv2 u, wv1 u, wv0 u]) (lb := [wv3 p, wv2 p, wv1 p, wv0 p, wv3 q, wv2 q, wv1 q, wv0 q, wv3 r, wv2 r, wv1 r, wv0 r]) fl35 eg35 (T rfl rfl) (T rfl rfl) rfl rfl) <| lw_nil ?_
 by_cases hb12 : ([wv3 x, wv2 x, wv1 x, wv0 x, wv3 y, wv2 y, wv1 y, wv0 y, wv3 u, wv2 u, wv1 u, wv0 u] : List Int) = [wv3 p, wv2 p, wv1 p, wv0 p, wv3 q, wv2 q, wv1 q, wv0 q, wv3 r, wv2 r, wv1 r, wv0 r]
 · have hz13 := (wl3_eq fx_ fy_ fu_ fp_ fq_ fr_).1 hb12
   refine rk_ct (T rfl (qT hb12)) <| rk_seq <| rk_reg <| lw_v (qi 0) (dv_assign C) <| lw_nil <| rk_ret Tryz.func26 (v := qi 0) (res1 Tryz.results26 (rv_tmp rfl rfl)) ⟨_, rfl, ?_⟩
   exact ⟨(vi (by exact (by first | (obtain ⟨rfl, rfl, rfl⟩ : x = p ∧ y = q ∧ u = r := ‹_›; exact (pc_self ..).symm) | (unfold pc; first | rw [if_pos (by assumption)] | rw [if_neg (by assumption)])))), E10⟩
 · have hz14 := mt (wl3_eq fx_ fy_ fu_ fp_ fq_ fr_).2 hb12
   refine rk_cf (T rfl (qF hb12)) <| rk_skip <| rk_seq ?_
   have : b1 < w7.heap.size := lt_of_blk H11
   have : b6 < w7.heap.size := lt_of_blk n8.blk
   have : w.heap.size ≤ w7.heap.size := E10.size
   refine rk_par2 [fun vq wq_ => vq = .agg (qA x y u), fun vq wq_ => ∃ (nr29 : Bool) (A30 : Option Addr) (n31 : Nat) (c32 : Nat) (nr33 : Bool) (A34 : Option Addr) (n35 : Nat) (c36 : Nat) (nr37 : Bool) (A38 : Option Addr) (n39 : Nat) (c40 : Nat), vq = .agg #[.bool nr29, .slice A30 n31 c32, .bool nr33, .slice A34 n35 c36, .bool nr37, .slice A38 n39 c40] ∧ Num 64 23 .u64 wq_ nr29 A30 n31 c32 x 256 ∧ Num 64 23 .u64 wq_ nr33 A34 n35 c36 y 256 ∧ Num 64 23 .u64 wq_ nr37 A38 n39 c40 u 256, fun vq wq_ => vq = .agg (qA p q r), fun vq wq_ => ∃ (nr61 : Bool) (A62 : Option Addr) (n63 : Nat) (c64 : Nat) (nr65 : Bool) (A66 : Option Addr) (n67 : Nat) (c68 : Nat) (nr69 : Bool) (A70 : Option Addr) (n71 : Nat) (c72 : Nat), vq = .agg #[.bool nr61, .slice A62 n63 c64, .bool nr65, .slice A66 n67 c68, .bool nr69, .slice A70 n71 c72] ∧ Num 64 23 .u64 wq_ nr61 A62 n63 c64 p 256 ∧ Num 64 23 .u64 wq_ nr65 A66 n67 c68 q 256 ∧ Num 64 23 .u64 wq_ nr69 A70 n71 c72 r 256, fun _ _ => True, fun _ _ => True, fun _ _ => True, fun _ _ => True] [⟨4, 6, 1, 79, #[.bool false, .slice none 0 0, .bool false, .slice none 0 0, .bool false, .slice none 0 0]⟩, ⟨5, 7, 3, 79, #[.bool false, .slice none 0 0, .bool false, .slice none 0 0, .bool false, .slice none 0 0]⟩] [79] mo (by kernel_rfl) (by kernel_rfl) ?_ ?_ ?_ ?_ ?_
   · intro e he e2 he2 h; simp only [List.mem_cons, List.not_mem_nil, or_false] at he he2; rcases he with rfl | rfl <;> rcases he2 with rfl | rfl <;> first | rfl | exact absurd h (by decide)
   · exact ⟨⟨fun v w w2 e h => h, fun v w w2 b cs T fz s hb hT h => h⟩, ⟨fun v w w2 e ⟨nr29, A30, n31, c32, nr33, A34, n35, c36, nr37, A38, n39, c40, hv, h0_, h1_, h2_⟩ => ⟨nr29, A30, n31, c32, nr33, A34, n35, c36, nr37, A38, n39, c40, hv, h0_.ext e, h1_.ext e, h2_.ext e⟩, fun v w w2 b cs T fz s hb hT ⟨nr29, A30, n31, c32, nr33, A34, n35, c36, nr37, A38, n39, c40, hv, h0_, h1_, h2_⟩ => ⟨nr29, A30, n31, c32, nr33, A34, n35, c36, nr37, A38, n39, c40, hv, h0_.st s hb (ts_ne hT (by decide)), h1_.st s hb (ts_ne hT (by decide)), h2_.st s hb (ts_ne hT (by decide))⟩⟩, ⟨fun v w w2 e h => h, fun v w w2 b cs T fz s hb hT h => h⟩, ⟨fun v w w2 e ⟨nr61, A62, n63, c64, nr65, A66, n67, c68, nr69, A70, n71, c72, hv, h0_, h1_, h2_⟩ => ⟨nr61, A62, n63, c64, nr65, A66, n67, c68, nr69, A70, n71, c72, hv, h0_.ext e, h1_.ext e, h2_.ext e⟩, fun v w w2 b cs T fz s hb hT ⟨nr61, A62, n63, c64, nr65, A66, n67, c68, nr69, A70, n71, c72, hv, h0_, h1_, h2_⟩ => ⟨nr61, A62, n63, c64, nr65, A66, n67, c68, nr69, A70, n71, c72, hv, h0_.st s hb (ts_ne hT (by decide)), h1_.st s hb (ts_ne hT (by decide)), h2_.st s hb (ts_ne hT (by decide))⟩⟩, ⟨fun v w w2 e h => h, fun v w w2 b cs T fz s hb hT h => h⟩, ⟨fun v w w2 e h => h, fun v w w2 b cs T fz s hb hT h => h⟩, ⟨fun v w w2 e h => h, fun v w w2 b cs T fz s hb hT h => h⟩, ⟨fun v w w2 e h => h, fun v w w2 b cs T fz s hb hT h => h⟩, trivial⟩
   · refine ⟨?_, ?_, ?_, ?_, ?_, ?_, ?_, ?_, trivial⟩
     · refine .inr ⟨by kernel_rfl, ?_⟩
       intro fr16 w15 e17 hF18 hD19
       have E20 := below_ext E10 E10.size e17
       have H21 := (e17.blk H11)
       exact DV.oe (dv_loads (l := [.int .u64 (wv3 x), .int .u64 (wv2 x), .int .u64 (wv1 x), .int .u64 (wv0 x), .int .u64 (wv3 y), .int .u64 (wv2 y), .int .u64 (wv1 y), .int .u64 (wv0 y), .int .u64 (wv3 u), .int .u64 (wv2 u), .int .u64 (wv1 u), .int .u64 (wv0 u)]) agt35 sz35 (T rfl (hF18 2 (by kernel_rfl))) H21 rfl) ⟨Below.refl _ _, rfl⟩
     · refine .inr ⟨by kernel_rfl, ?_⟩
       intro fr23 w22 e24 hF25 hD26
       have E27 := below_ext E10 E10.size e24
       have hv28 : fr23 11 = .agg #[.int .u64 (wv3 x), .int .u64 (wv2 x), .int .u64 (wv1 x), .int .u64 (wv0 x), .int .u64 (wv3 y), .int .u64 (wv2 y), .int .u64 (wv1 y), .int .u64 (wv0 y), .int .u64 (wv3 u), .int .u64 (wv2 u), .int .u64 (wv1 u), .int .u64 (wv0 u)] := hD26 0 _ (by kernel_rfl) rfl (by kernel_rfl)
       refine id (oe_callf (vs := [.agg (qA x y u)]) co44 (ar1 (T rfl hv28)) (spot_ok fx_ fy_ fu_  ) ?_)
       rintro _ w44 ⟨nr29, A30, n31, c32, nr33, A34, n35, c36, nr37, A38, n39, c40, rfl, e45, h41, h42, h43⟩
       have E46 := below_ext E27 E27.size e45
       have lh41 := Num.len (by decide) h41
       have lh42 := Num.len (by decide) h42
       have lh43 := Num.len (by decide) h43
       exact ⟨e45, nr29, A30, n31, c32, nr33, A34, n35, c36, nr37, A38, n39, c40, rfl, h41, h42, h43⟩
     · refine .inr ⟨by kernel_rfl, ?_⟩
       intro fr48 w47 e49 hF50 hD51
       have E52 := below_ext E10 E10.size e49
       have H53 := (e49.blk n8.blk)
       exact DV.oe (dv_loads (l := [.int .u64 (wv3 p), .int .u64 (wv2 p), .int .u64 (wv1 p), .int .u64 (wv0 p), .int .u64 (wv3 q), .int .u64 (wv2 q), .int .u64 (wv1 q), .int .u64 (wv0 q), .int .u64 (wv3 r), .int .u64 (wv2 r), .int .u64 (wv1 r), .int .u64 (wv0 r)]) agt35 sz35 (T rfl (hF50 3 (by kernel_rfl))) H53 rfl) ⟨Below.refl _ _, rfl⟩
     · refine .inr ⟨by kernel_rfl, ?_⟩
       intro fr55 w54 e56 hF57 hD58
       have E59 := below_ext E10 E10.size e56
       have hv60 : fr55 13 = .agg #[.int .u64 (wv3 p), .int .u64 (wv2 p), .int .u64 (wv1 p), .int .u64 (wv0 p), .int .u64 (wv3 q), .int .u64 (wv2 q), .int .u64 (wv1 q), .int .u64 (wv0 q), .int .u64 (wv3 r), .int .u64 (wv2 r), .int .u64 (wv1 r), .int .u64 (wv0 r)] := hD58 2 _ (by kernel_rfl) rfl (by kernel_rfl)
       refine id (oe_callf (vs := [.agg (qA p q r)]) co44 (ar1 (T rfl hv60)) (spot_ok fp_ fq_ fr_  ) ?_)
       rintro _ w76 ⟨nr61, A62, n63, c64, nr65, A66, n67, c68, nr69, A70, n71, c72, rfl, e77, h73, h74, h75⟩
       have E78 := below_ext E59 E59.size e77
       have lh73 := Num.len (by decide) h73
       have lh74 := Num.len (by decide) h74
       have lh75 := Num.len (by decide) h75
       exact ⟨e77, nr61, A62, n63, c64, nr65, A66, n67, c68, nr69, A70, n71, c72, rfl, h73, h74, h75⟩
     · exact .inl (.inr ⟨by kernel_rfl, fun _ _ => trivial⟩)
     · exact .inl (.inr ⟨by kernel_rfl, fun _ _ => trivial⟩)
     · exact .inl (.inl (by kernel_rfl))
     · exact .inl (.inl (by kernel_rfl))
   · refine ⟨⟨⟨_, rfl, fun _ _ => oe_alloc ze79 fun b w hn => ⟨b, rfl, hn⟩⟩, ⟨_, rfl, ?_⟩⟩, ⟨⟨_, rfl, fun _ _ => oe_alloc ze79 fun b w hn => ⟨b, rfl, hn⟩⟩, ⟨_, rfl, ?_⟩⟩, trivial⟩
     · intro fr80 w79 b84 e81 hF82 hD83 hA85 hB86
       have E87 := below_ext E10 E10.size e81
       obtain ⟨nr88, A89, n90, c91, nr92, A93, n94, c95, nr96, A97, n98, c99, hv100, hp101, hp102, hp103⟩ : ∃ (nr29 : Bool) (A30 : Option Addr) (n31 : Nat) (c32 : Nat) (nr33 : Bool) (A34 : Option Addr) (n35 : Nat) (c36 : Nat) (nr37 : Bool) (A38 : Option Addr) (n39 : Nat) (c40 : Nat), fr80 12 = .agg #[.bool nr29, .slice A30 n31 c32, .bool nr33, .slice A34 n35 c36, .bool nr37, .slice A38 n39 c40] ∧ Num 64 23 .u64 w79 nr29 A30 n31 c32 x 256 ∧ Num 64 23 .u64 w79 nr33 A34 n35 c36 y 256 ∧ Num 64 23 .u64 w79 nr37 A38 n39 c40 u 256 := hD83 1 _ (by kernel_rfl) rfl (by kernel_rfl)
       have lhp101 := Num.len (by decide) hp101
       have lhp102 := Num.len (by decide) hp102
       have lhp103 := Num.len (by decide) hp103
       refine id (oe_store (v := .agg #[.bool nr88, .slice A89 n90 c91, .bool nr92, .slice A93 n94 c95, .bool nr96, .slice A97 n98 c99]) (vs := [.bool nr88, .slice A89 n90 c91, .bool nr92, .slice A93 n94 c95, .bool nr96, .slice A97 n98 c99]) (l := [.bool nr88, .slice A89 n90 c91, .bool nr92, .slice A93 n94 c95, .bool nr96, .slice A97 n98 c99]) (T rfl hA85) (T rfl hv100) sz79 rfl rfl rfl hB86 rfl ?_)
       intro w104 s105 H106
       exact ⟨s105, H106.trans (congrArg (fun v : Value => some (Obj.cells v.cells 79)) (show fr80 12 = _ from hv100).symm)⟩
     · intro fr109 w108 b113 e110 hF111 hD112 hA114 hB115
       have E116 := below_ext E10 E10.size e110
       obtain ⟨nr117, A118, n119, c120, nr121, A122, n123, c124, nr125, A126, n127, c128, hv129, hp130, hp131, hp132⟩ : ∃ (nr61 : Bool) (A62 : Option Addr) (n63 : Nat) (c64 : Nat) (nr65 : Bool) (A66 : Option Addr) (n67 : Nat) (c68 : Nat) (nr69 : Bool) (A70 : Option Addr) (n71 : Nat) (c72 : Nat), fr109 14 = .agg #[.bool nr61, .slice A62 n63 c64, .bool nr65, .slice A66 n67 c68, .bool nr69, .slice A70 n71 c72] ∧ Num 64 23 .u64 w108 nr61 A62 n63 c64 p 256 ∧ Num 64 23 .u64 w108 nr65 A66 n67 c68 q 256 ∧ Num 64 23 .u64 w108 nr69 A70 n71 c72 r 256 := hD112 3 _ (by kernel_rfl) rfl (by kernel_rfl)
       have lhp130 := Num.len (by decide) hp130
       have lhp131 := Num.len (by decide) hp131
       have lhp132 := Num.len (by decide) hp132
       refine id (oe_store (v := .agg #[.bool nr117, .slice A118 n119 c120, .bool nr121, .slice A122 n123 c124, .bool nr125, .slice A126 n127 c128]) (vs := [.bool nr117, .slice A118 n119 c120, .bool nr121, .slice A122 n123 c124, .bool nr125, .slice A126 n127 c128]) (l := [.bool nr117, .slice A118 n119 c120, .bool nr121, .slice A122 n123 c124, .bool nr125, .slice A126 n127 c128]) (T rfl hA114) (T rfl hv129) sz79 rfl rfl rfl hB115 rfl ?_)
       intro w133 s134 H135
       exact ⟨s134, H135.trans (congrArg (fun v : Value => some (Obj.cells v.cells 79)) (show fr109 14 = _ from hv129).symm)⟩
   intro fr138 w137 e139 hF140 hP141 hM142 hN143
   have E144 := below_ext E10 E10.size e139
   obtain ⟨_, p145, _, p146, _, _, _, _, _⟩ := hP141
   obtain ⟨nr147, A148, n149, c150, nr151, A152, n153, c154, nr155, A156, n157, c158, hv159, hp160, hp161, hp162⟩ : ∃ (nr29 : Bool) (A30 : Option Addr) (n31 : Nat) (c32 : Nat) (nr33 : Bool) (A34 : Option Addr) (n35 : Nat) (c36 : Nat) (nr37 : Bool) (A38 : Option Addr) (n39 : Nat) (c40 : Nat), fr138 12 = .agg #[.bool nr29, .slice A30 n31 c32, .bool nr33, .slice A34 n35 c36, .bool nr37, .slice A38 n39 c40] ∧ Num 64 23 .u64 w137 nr29 A30 n31 c32 x 256 ∧ Num 64 23 .u64 w137 nr33 A34 n35 c36 y 256 ∧ Num 64 23 .u64 w137 nr37 A38 n39 c40 u 256 := p145.resolve_left (nst (by kernel_rfl))
   have lhp160 := Num.len (by decide) hp160
   have lhp161 := Num.len (by decide) hp161
   have lhp162 := Num.len (by decide) hp162
   obtain ⟨nr163, A164, n165, c166, nr167, A168, n169, c170, nr171, A172, n173, c174, hv175, hp176, hp177, hp178⟩ : ∃ (nr61 : Bool) (A62 : Option Addr) (n63 : Nat) (c64 : Nat) (nr65 : Bool) (A66 : Option Addr) (n67 : Nat) (c68 : Nat) (nr69 : Bool) (A70 : Option Addr) (n71 : Nat) (c72 : Nat), fr138 14 = .agg #[.bool nr61, .slice A62 n63 c64, .bool nr65, .slice A66 n67 c68, .bool nr69, .slice A70 n71 c72] ∧ Num 64 23 .u64 w137 nr61 A62 n63 c64 p 256 ∧ Num 64 23 .u64 w137 nr65 A66 n67 c68 q 256 ∧ Num 64 23 .u64 w137 nr69 A70 n71 c72 r 256 := p146.resolve_left (nst (by kernel_rfl))
   have lhp176 := Num.len (by decide) hp176
   have lhp177 := Num.len (by decide) hp177
   have lhp178 := Num.len (by decide) hp178
   obtain ⟨⟨b179, hA180, hB181, hC182⟩, ⟨b183, hA184, hB185, hC186⟩, _⟩ := hM142
   have H187 : w137.heap[b179]? = some (.cells #[.bool nr147, .slice A148 n149 c150, .bool nr151, .slice A152 n153 c154, .bool nr155, .slice A156 n157 c158] 79) := hC182.trans (congrArg (fun v : Value => some (Obj.cells v.cells 79)) hv159)
   have N188 : w.heap.size ≤ b179 := by omega
   have H189 : w137.heap[b183]? = some (.cells #[.bool nr163, .slice A164 n165 c166, .bool nr167, .slice A168 n169 c170, .bool nr171, .slice A172 n173 c174] 79) := hC186.trans (congrArg (fun v : Value => some (Obj.cells v.cells 79)) hv175)
   have N190 : w.heap.size ≤ b183 := by omega
   have : b183 ≠ b179 := fun hh => hN143 _ (.tail _ (.head _)) _ (.head _) (by decide) (hA184.trans ((congrArg (fun q => Value.pointer (some ⟨q, 0, none⟩)) hh).trans hA180.symm))
   refine rk_seq <| rk_seq <| rk_any (fun w => w.heap[b179]? = some (.cells #[.bool nr147, .slice A148 n149 c150, .bool nr151, .slice A152 n153 c154, .bool nr155, .slice A156 n157 c158] 79) ∧ w.heap[b183]? = some (.cells #[.bool nr163, .slice A164 n165 c166, .bool nr167, .slice A168 n169 c170, .bool nr171, .slice A172 n173 c174] 79)) [11] mo ?_
   intro w191 d192
   have E193 := below_ext E144 E144.size d192.ext
   have H194 := (d192.ext.blk H187)
   have H195 := (d192.ext.blk H189)
   refine aw_pure 0 (.pointer (some ⟨b179, 0, none⟩)) rfl (by kernel_rfl) .none ⟨H194, H195⟩ (fun _ => dv_fieldAddr (a := ⟨b179, 0, none⟩) (a' := ⟨b179, 0, none⟩) fo79_0 (T rfl hA180) rfl) <| aw_load 1 (.agg #[.bool nr147, .slice A148 n149 c150]) rfl (by kernel_rfl) .none ⟨H194, H195⟩ (fun _ s => dv_loads (l := [.bool nr147, .slice A148 n149 c150]) agt77 sz77 (T rfl rfl) s.1 rfl) <| aw_pure 2 (.pointer (some ⟨b183, 4, none⟩)) rfl (by kernel_rfl) .none ⟨H194, H195⟩ (fun _ => dv_fieldAddr (a := ⟨b183, 0, none⟩) (a' := ⟨b183, 4, none⟩) fo79_2 (T rfl hA184) rfl) <| aw_load 3 (.agg #[.bool nr171, .slice A172 n173 c174]) rfl (by kernel_rfl) .none ⟨H194, H195⟩ (fun _ s => dv_loads (l := [.bool nr171, .slice A172 n173 c174]) agt77 sz77 (T rfl rfl) s.2 rfl) <| aw_pure 5 (.pointer (some ⟨b183, 0, none⟩)) rfl (by kernel_rfl) .none ⟨H194, H195⟩ (fun _ => dv_fieldAddr (a := ⟨b183, 0, none⟩) (a' := ⟨b183, 0, none⟩) fo79_0 (T rfl hA184) rfl) <| aw_load 6 (.agg #[.bool nr163, .slice A164 n165 c166]) rfl (by kernel_rfl) .none ⟨H194, H195⟩ (fun _ s => dv_loads (l := [.bool nr163, .slice A164 n165 c166]) agt77 sz77 (T rfl rfl) s.2 rfl) <| aw_pure 7 (.pointer (some ⟨b179, 4, none⟩)) rfl (by kernel_rfl) .none ⟨H194, H195⟩ (fun _ => dv_fieldAddr (a := ⟨b179, 0, none⟩) (a' := ⟨b179, 4, none⟩) fo79_2 (T rfl hA180) rfl) <| aw_load 8 (.agg #[.bool nr155, .slice A156 n157 c158]) rfl (by kernel_rfl) .none ⟨H194, H195⟩ (fun _ s => dv_loads (l := [.bool nr155, .slice A156 n157 c158]) agt77 sz77 (T rfl rfl) s.1 rfl) ?_
   have h196 := (hp160.ext d192.ext)
   have h197 := (hp178.ext d192.ext)
   refine aw_one 4 rfl (by kernel_rfl) .none (oe_callf (vs := [.agg #[.bool nr147, .slice A148 n149 c150], .agg #[.bool nr171, .slice A172 n173 c174]]) co51 (ar2 (T rfl rfl) (T rfl rfl)) (nby_ok h196 h197 (by first | decide | omega) (by first | decide | omega)) ?_)
   rintro _ w203 ⟨nr198, A199, n200, c201, rfl, e204, h202⟩
   have E205 := below_ext E193 E193.size e204
   have lh202 := Num.len (by decide) h202
   have H206 := (e204.blk H194)
   have H207 := (e204.blk H195)
   refine ⟨.inr ⟨H206, H207⟩, ?_⟩
   have h208 := ((hp176.ext d192.ext).ext e204)
   have h209 := ((hp162.ext d192.ext).ext e204)
   refine aw_one 9 rfl (by kernel_rfl) .none (oe_callf (vs := [.agg #[.bool nr163, .slice A164 n165 c166], .agg #[.bool nr155, .slice A156 n157 c158]]) co51 (ar2 (T rfl rfl) (T rfl rfl)) (nby_ok h208 h209 (by first | decide | omega) (by first | decide | omega)) ?_)
   rintro _ w215 ⟨nr210, A211, n212, c213, rfl, e216, h214⟩
   have E217 := below_ext E205 E205.size e216
   have lh214 := Num.len (by decide) h214
   have H218 := (e216.blk H206)
   have H219 := (e216.blk H207)
   refine ⟨.inr ⟨H218, H219⟩, ?_⟩
   have h220 := (h202.ext e216)
   refine aw_one 10 rfl (by kernel_rfl) .none (oe_callf (vs := [.agg #[.bool nr198, .slice A199 n200 c201], .agg #[.bool nr210, .slice A211 n212 c213]]) co48 (ar2 (T rfl rfl) (T rfl rfl)) (ncmp_ok h220 h214 (by first | decide | omega) (by first | decide | omega)) ?_)
   rintro _ w221 ⟨rfl, e222⟩
   have E223 := below_ext E217 E217.size e222
   have H224 := (e222.blk H218)
   have H225 := (e222.blk H219)
   refine ⟨.inr ⟨H224, H225⟩, ?_⟩
   refine aw_last 11 (qi (sgnI ((x * r) - (p * u)))) rfl (by kernel_rfl) .none (fun _ => dv_assign (T rfl rfl)) <| aw_done (by kernel_rfl) <| rk_seq <| rk_reg <| lw_v (qi (sgnI ((x * r) - (p * u)))) (dv_move (T rfl rfl)) <| lw_v (qd ((sgnI ((x * r) - (p * u))) ≠ 0)) (dv_neq (a := sgnI ((x * r) - (p * u))) (b := 0) (T rfl rfl) C) <| lw_nil ?_
   by_cases hb226 : (sgnI ((x * r) - (p * u))) ≠ 0
   · refine rk_ct (T rfl (qT hb226)) <| rk_seq <| rk_reg <| lw_v (qi (sgnI ((x * r) - (p * u)))) (dv_move (T rfl rfl)) <| lw_v (qi (sgnI ((x * r) - (p * u)))) (dv_assign (T rfl rfl)) <| lw_nil <| rk_ret Tryz.func26 (v := qi (sgnI ((x * r) - (p * u)))) (res1 Tryz.results26 (rv_tmp rfl rfl)) ⟨_, rfl, ?_⟩
     exact ⟨(vi (by exact (by first | (obtain ⟨rfl, rfl, rfl⟩ : x = p ∧ y = q ∧ u = r := ‹_›; exact (pc_self ..).symm) | (unfold pc; first | rw [if_pos (by assumption)] | rw [if_neg (by assumption)])))), E223⟩
   · refine rk_cf (T rfl (qF hb226)) <| rk_skip <| rk_seq <| rk_any (fun w => w.heap[b179]? = some (.cells #[.bool nr147, .slice A148 n149 c150, .bool nr151, .slice A152 n153 c154, .bool nr155, .slice A156 n157 c158] 79) ∧ w.heap[b183]? = some (.cells #[.bool nr163, .slice A164 n165 c166, .bool nr167, .slice A168 n169 c170, .bool nr171, .slice A172 n173 c174] 79)) [11] mo ?_
     intro w227 d228
     have E229 := below_ext E223 E223.size d228.ext
     have H230 := (d228.ext.blk H224)
     have H231 := (d228.ext.blk H225)
     refine aw_pure 0 (.pointer (some ⟨b179, 2, none⟩)) rfl (by kernel_rfl) .none ⟨H230, H231⟩ (fun _ => dv_fieldAddr (a := ⟨b179, 0, none⟩) (a' := ⟨b179, 2, none⟩) fo79_1 (T rfl hA180) rfl) <| aw_load 1 (.agg #[.bool nr151, .slice A152 n153 c154]) rfl (by kernel_rfl) .none ⟨H230, H231⟩ (fun _ s => dv_loads (l := [.bool nr151, .slice A152 n153 c154]) agt77 sz77 (T rfl rfl) s.1 rfl) <| aw_pure 2 (.pointer (some ⟨b183, 4, none⟩)) rfl (by kernel_rfl) .none ⟨H230, H231⟩ (fun _ => dv_fieldAddr (a := ⟨b183, 0, none⟩) (a' := ⟨b183, 4, none⟩) fo79_2 (T rfl hA184) rfl) <| aw_load 3 (.agg #[.bool nr171, .slice A172 n173 c174]) rfl (by kernel_rfl) .none ⟨H230, H231⟩ (fun _ s => dv_loads (l := [.bool nr171, .slice A172 n173 c174]) agt77 sz77 (T rfl rfl) s.2 rfl) <| aw_pure 5 (.pointer (some ⟨b183, 2, none⟩)) rfl (by kernel_rfl) .none ⟨H230, H231⟩ (fun _ => dv_fieldAddr (a := ⟨b183, 0, none⟩) (a' := ⟨b183, 2, none⟩) fo79_1 (T rfl hA184) rfl) <| aw_load 6 (.agg #[.bool nr167, .slice A168 n169 c170]) rfl (by kernel_rfl) .none ⟨H230, H231⟩ (fun _ s => dv_loads (l := [.bool nr167, .slice A168 n169 c170]) agt77 sz77 (T rfl rfl) s.2 rfl) <| aw_pure 7 (.pointer (some ⟨b179, 4, none⟩)) rfl (by kernel_rfl) .none ⟨H230, H231⟩ (fun _ => dv_fieldAddr (a := ⟨b179, 0, none⟩) (a' := ⟨b179, 4, none⟩) fo79_2 (T rfl hA180) rfl) <| aw_load 8 (.agg #[.bool nr155, .slice A156 n157 c158]) rfl (by kernel_rfl) .none ⟨H230, H231⟩ (fun _ s => dv_loads (l := [.bool nr155, .slice A156 n157 c158]) agt77 sz77 (T rfl rfl) s.1 rfl) ?_
     have h232 := (((((hp161.ext d192.ext).ext e204).ext e216).ext e222).ext d228.ext)
     have h233 := ((((h197.ext e204).ext e216).ext e222).ext d228.ext)
     refine aw_one 4 rfl (by kernel_rfl) .none (oe_callf (vs := [.agg #[.bool nr151, .slice A152 n153 c154], .agg #[.bool nr171, .slice A172 n173 c174]]) co51 (ar2 (T rfl rfl) (T rfl rfl)) (nby_ok h232 h233 (by first | decide | omega) (by first | decide | omega)) ?_)
     rintro _ w239 ⟨nr234, A235, n236, c237, rfl, e240, h238⟩
     have E241 := below_ext E229 E229.size e240
     have lh238 := Num.len (by decide) h238
     have H242 := (e240.blk H230)
     have H243 := (e240.blk H231)
     refine ⟨.inr ⟨H242, H243⟩, ?_⟩
     have h244 := ((((((hp177.ext d192.ext).ext e204).ext e216).ext e222).ext d228.ext).ext e240)
     have h245 := ((((h209.ext e216).ext e222).ext d228.ext).ext e240)
     refine aw_one 9 rfl (by kernel_rfl) .none (oe_callf (vs := [.agg #[.bool nr167, .slice A168 n169 c170], .agg #[.bool nr155, .slice A156 n157 c158]]) co51 (ar2 (T rfl rfl) (T rfl rfl)) (nby_ok h244 h245 (by first | decide | omega) (by first | decide | omega)) ?_)
     rintro _ w251 ⟨nr246, A247, n248, c249, rfl, e252, h250⟩
     have E253 := below_ext E241 E241.size e252
     have lh250 := Num.len (by decide) h250
     have H254 := (e252.blk H242)
     have H255 := (e252.blk H243)
     refine ⟨.inr ⟨H254, H255⟩, ?_⟩
     have h256 := (h238.ext e252)
     refine aw_one 10 rfl (by kernel_rfl) .none (oe_callf (vs := [.agg #[.bool nr234, .slice A235 n236 c237], .agg #[.bool nr246, .slice A247 n248 c249]]) co48 (ar2 (T rfl rfl) (T rfl rfl)) (ncmp_ok h256 h250 (by first | decide | omega) (by first | decide | omega)) ?_)
     rintro _ w257 ⟨rfl, e258⟩
     have E259 := below_ext E253 E253.size e258
     have H260 := (e258.blk H254)
     have H261 := (e258.blk H255)
     refine ⟨.inr ⟨H260, H261⟩, ?_⟩
     refine aw_last 11 (qi (sgnI ((y * r) - (q * u)))) rfl (by kernel_rfl) .none (fun _ => dv_assign (T rfl rfl)) <| aw_done (by kernel_rfl) <| rk_ret Tryz.func26 (v := qi (sgnI ((y * r) - (q * u)))) (res1 Tryz.results26 (rv_tmp rfl rfl)) ⟨_, rfl, ?_⟩
     exact ⟨(vi (by exact (by first | (obtain ⟨rfl, rfl, rfl⟩ : x = p ∧ y = q ∧ u = r := ‹_›; exact (pc_self ..).symm) | (unfold pc; first | rw [if_pos (by assumption)] | rw [if_neg (by assumption)])))), E259⟩
end Go.Proofs.YtmbpomcbdopgnaaGreat.W
set_option linter.unusedVariables false
set_option linter.unusedSimpArgs false
namespace Go.Proofs.YtmbpomcbdopgnaaGreat.W
open Go Go.RowKit Go.Proofs.YtmbpomcbdopgnaaGreat.Fw
attribute [local irreducible] RunK LW AW DV OE Ct
set_option maxHeartbeats 1000000 in
theorem l1In_ok {w : World} {n lo hi : Int}   : Ct Tryz.prog 15 [.int .i64 n, .int .i64 lo, .int .i64 hi] w fun v w1 => v = .bool (decide (lo ≤ n ∧ n ≤ hi)) ∧ Ext w w1 := by
 refine ct_run (n := 15) Tryz.func15 rfl Tryz.ntmps15 rfl ?_
 have E0 : Below w.heap.size w w := Below.refl _ _
 refine rk_seq <| rk_reg <| lw_v (.bool false) (dv_assign C) <| qN <| lw_v (qi n) (dv_move (T rfl rfl)) <| lw_v (qi lo) (dv_move (T rfl rfl)) <| lw_v (qd (lo ≤ n)) (dv_geq (a := n) (b := lo) (T rfl rfl) (T rfl rfl)) <| lw_v (qd (lo ≤ n)) (dv_move (T rfl rfl)) ?_
 by_cases hb1 : lo ≤ n
 · refine lw_vy (qi n) (d := 10) rfl rfl (qT hb1) (dv_move (T rfl rfl)) <| lw_vy (qi hi) (d := 10) rfl rfl (qT hb1) (dv_move (T rfl rfl)) <| lw_vy (qd (n ≤ hi)) (d := 10) rfl rfl (qT hb1) (dv_leq (a := n) (b := hi) (T rfl rfl) (T rfl rfl)) <| lw_v (qd (n ≤ hi)) (dv_pick_t (T rfl (qT hb1)) (T rfl rfl)) <| lw_v (qd (n ≤ hi)) (dv_assign (T rfl rfl)) <| lw_nil <| rk_ret Tryz.func15 (v := qd (n ≤ hi)) (res1 Tryz.results15 (rv_tmp rfl rfl)) ⟨_, rfl, ?_⟩
   exact ⟨(vb (by grind)), E0⟩
 · refine lw_no (d := 10) rfl rfl (qF hb1) <| lw_no (d := 10) rfl rfl (qF hb1) <| lw_no (d := 10) rfl rfl (qF hb1) <| lw_v (.bool false) (dv_pick_f (T rfl (qF hb1)) C) <| lw_v (.bool false) (dv_assign (T rfl rfl)) <| lw_nil <| rk_ret Tryz.func15 (v := .bool false) (res1 Tryz.results15 (rv_tmp rfl rfl)) ⟨_, rfl, ?_⟩
   exact ⟨(vf (by grind)), E0⟩
set_option maxHeartbeats 1000000 in
theorem within_ok {w : World} {n lo hi : Int}   : Ct Tryz.prog 24 [.int .i64 n, .int .i64 lo, .int .i64 hi] w fun v w1 => v = .bool (decide (lo ≤ n ∧ n ≤ hi)) ∧ Ext w w1 := by
 refine ct_run (n := 15) Tryz.func24 rfl Tryz.ntmps24 rfl ?_
 have E0 : Below w.heap.size w w := Below.refl _ _
 refine rk_seq <| rk_reg <| lw_v (.bool false) (dv_assign C) <| qN <| lw_v (qi lo) (dv_move (T rfl rfl)) <| lw_v (qi n) (dv_move (T rfl rfl)) <| lw_v (qd (lo ≤ n)) (dv_leq (a := lo) (b := n) (T rfl rfl) (T rfl rfl)) <| lw_v (qd (lo ≤ n)) (dv_move (T rfl rfl)) ?_
 by_cases hb1 : lo ≤ n
 · refine lw_vy (qi n) (d := 10) rfl rfl (qT hb1) (dv_move (T rfl rfl)) <| lw_vy (qi hi) (d := 10) rfl rfl (qT hb1) (dv_move (T rfl rfl)) <| lw_vy (qd (n ≤ hi)) (d := 10) rfl rfl (qT hb1) (dv_leq (a := n) (b := hi) (T rfl rfl) (T rfl rfl)) <| lw_v (qd (n ≤ hi)) (dv_pick_t (T rfl (qT hb1)) (T rfl rfl)) <| lw_v (qd (n ≤ hi)) (dv_assign (T rfl rfl)) <| lw_nil <| rk_ret Tryz.func24 (v := qd (n ≤ hi)) (res1 Tryz.results24 (rv_tmp rfl rfl)) ⟨_, rfl, ?_⟩
   exact ⟨(vb (by grind)), E0⟩
 · refine lw_no (d := 10) rfl rfl (qF hb1) <| lw_no (d := 10) rfl rfl (qF hb1) <| lw_no (d := 10) rfl rfl (qF hb1) <| lw_v (.bool false) (dv_pick_f (T rfl (qF hb1)) C) <| lw_v (.bool false) (dv_assign (T rfl rfl)) <| lw_nil <| rk_ret Tryz.func24 (v := .bool false) (res1 Tryz.results24 (rv_tmp rfl rfl)) ⟨_, rfl, ?_⟩
   exact ⟨(vf (by grind)), E0⟩
end Go.Proofs.YtmbpomcbdopgnaaGreat.W
