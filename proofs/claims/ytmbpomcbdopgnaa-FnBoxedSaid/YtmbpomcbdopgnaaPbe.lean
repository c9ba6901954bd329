/- Walks and plain mathematics, packed by a program of this session: declarations that the rows reach. -/
import Derived.Test.YtmbpomcbdopgnaaPbd
set_option linter.unusedVariables false
set_option linter.unusedSimpArgs false
namespace Go.Proofs.Ytmbpomcbdopgnaa.W
open Go Go.RowKit Go.Proofs.Ytmbpomcbdopgnaa.Fw
attribute [local irreducible] RunK LW AW DV OE Ct
theorem co126 : callOk Try.prog 126 = true := by kernel_rfl
set_option maxHeartbeats 1000000 in
theorem spoint_ok {w : World}  {na : Bool} {Aa : Option Addr} {la ca : Nat} {x : Int} {sx : Nat} (ha : Num 64 36 .u64 w na Aa la ca x sx) {nb : Bool} {Ab : Option Addr} {lb cb : Nat} {y : Int} {sy : Nat} (hb : Num 64 36 .u64 w nb Ab lb cb y sy) {nm : Bool} {Am : Option Addr} {lm cm : Nat} {u : Int} {su : Nat} (hm : Num 64 36 .u64 w nm Am lm cm u su) (hbsx : sx ≤ 100000) (hbsy : sy ≤ 100000) (hbsu : su ≤ 100000)  : Ct Try.prog 93 [.agg #[.bool na, .slice Aa la ca, .bool nb, .slice Ab lb cb, .bool nm, .slice Am lm cm]] w fun v w1 => v = .tuple #[.agg #[.int .u64 (wv3 (pkz (pFit x y u) (pPt x y u x))), .int .u64 (wv2 (pkz (pFit x y u) (pPt x y u x))), .int .u64 (wv1 (pkz (pFit x y u) (pPt x y u x))), .int .u64 (wv0 (pkz (pFit x y u) (pPt x y u x))), .int .u64 (wv3 (pkz (pFit x y u) (pPt x y u y))), .int .u64 (wv2 (pkz (pFit x y u) (pPt x y u y))), .int .u64 (wv1 (pkz (pFit x y u) (pPt x y u y))), .int .u64 (wv0 (pkz (pFit x y u) (pPt x y u y))), .int .u64 (wv3 (pkz (pFit x y u) (pPt x y u u))), .int .u64 (wv2 (pkz (pFit x y u) (pPt x y u u))), .int .u64 (wv1 (pkz (pFit x y u) (pPt x y u u))), .int .u64 (wv0 (pkz (pFit x y u) (pPt x y u u)))], .bool (decide (pFit x y u))] ∧ Ext w w1 := by
 refine ct_run (n := 80) Try.func93 rfl Try.ntmps93 rfl ?_
 have E0 : Below w.heap.size w w := Below.refl _ _
 have lha := Num.len (by decide) ha
 have lhb := Num.len (by decide) hb
 have lhm := Num.len (by decide) hm
 refine rk_seq ?_
 refine rk_reg ?_
 refine lw_e (oe_box (v := .agg #[.bool na, .slice Aa la ca, .bool nb, .slice Ab lb cb, .bool nm, .slice Am lm cm]) (cs := #[.bool na, .slice Aa la ca, .bool nb, .slice Ab lb cb, .bool nm, .slice Am lm cm]) (T rfl rfl) rfl ?_)
 intro b1 w2 n3
 have N4 : w.heap.size ≤ b1 := n3.eq ▸ E0.size
 have E5 := below_ext E0 E0.size n3.ext
 refine lw_e (oe_alloc ze40 ?_)
 intro b6 w7 n8
 have N9 : w.heap.size ≤ b6 := n8.eq ▸ E5.size
 have : b1 < b6 := n8.eq ▸ lt_of_blk n3.blk
 have E10 := below_ext E5 E5.size n8.ext
 refine lw_v (.bool false) (dv_assign C) ?_
 refine lw_nil ?_
 refine rk_seq ?_
 refine rk_seq ?_
 refine rk_reg ?_
 refine lw_v (.pointer (some ⟨b1, 4, none⟩)) (dv_fieldAddr (a := ⟨b1, 0, none⟩) (a' := ⟨b1, 4, none⟩) fo109_2 (T rfl rfl) rfl) ?_
 have H11 := (n8.ext.blk n3.blk)
 refine lw_v (.agg #[.bool nm, .slice Am lm cm]) (dv_loads (l := [.bool nm, .slice Am lm cm]) agt107 sz107 (T rfl rfl) H11 rfl) ?_
 have h12 := ((hm.ext n3.ext).ext n8.ext)
 refine lw_e (oe_callf (vs := [.agg #[.bool nm, .slice Am lm cm]]) co103 (ar1 (T rfl rfl)) (nsign_ok h12 ) ?_)
 rintro _ w13 ⟨rfl, e14⟩
 have E15 := below_ext E10 E10.size e14
 refine lw_v (.bool (decide ((sgnI u) = 0))) (dv_eql (a := sgnI u) (b := 0) (T rfl rfl) C) ?_
 refine lw_nil ?_
 by_cases hb16 : (sgnI u) = 0
 · refine rk_ct (T rfl (congrArg Value.bool (decide_eq_true hb16))) ?_
   refine rk_seq ?_
   refine rk_reg ?_
   refine lw_v (.agg #[.int .u64 0, .int .u64 0, .int .u64 0, .int .u64 0, .int .u64 0, .int .u64 0, .int .u64 0, .int .u64 0, .int .u64 0, .int .u64 0, .int .u64 0, .int .u64 0]) (dv_build (pv := []) (l := [.int .u64 0, .int .u64 0, .int .u64 0, .int .u64 0, .int .u64 0, .int .u64 0, .int .u64 0, .int .u64 0, .int .u64 0, .int .u64 0, .int .u64 0, .int .u64 0]) zc40 pl40 trivial rfl) ?_
   have H17 := (e14.blk n8.blk)
   refine lw_e (oe_store (v := .agg #[.int .u64 0, .int .u64 0, .int .u64 0, .int .u64 0, .int .u64 0, .int .u64 0, .int .u64 0, .int .u64 0, .int .u64 0, .int .u64 0, .int .u64 0, .int .u64 0]) (vs := [.int .u64 0, .int .u64 0, .int .u64 0, .int .u64 0, .int .u64 0, .int .u64 0, .int .u64 0, .int .u64 0, .int .u64 0, .int .u64 0, .int .u64 0, .int .u64 0]) (l := [.int .u64 0, .int .u64 0, .int .u64 0, .int .u64 0, .int .u64 0, .int .u64 0, .int .u64 0, .int .u64 0, .int .u64 0, .int .u64 0, .int .u64 0, .int .u64 0]) (T rfl rfl) (T rfl rfl) sz40 rfl rfl rfl H17 rfl ?_)
   intro w18 s19 H20
   have E21 := below_st E15 N9 s19
   refine lw_v (.bool false) (dv_assign C) ?_
   refine lw_nil ?_
   refine rk_ret Try.func93 (v := .tuple #[.agg #[.int .u64 0, .int .u64 0, .int .u64 0, .int .u64 0, .int .u64 0, .int .u64 0, .int .u64 0, .int .u64 0, .int .u64 0, .int .u64 0, .int .u64 0, .int .u64 0], .bool false]) (res2 Try.results93 (rv_cells (l := [.int .u64 0, .int .u64 0, .int .u64 0, .int .u64 0, .int .u64 0, .int .u64 0, .int .u64 0, .int .u64 0, .int .u64 0, .int .u64 0, .int .u64 0, .int .u64 0]) agt40 sz40 rfl rfl H20 rfl) (rv_tmp rfl rfl)) ⟨_, rfl, ?_⟩
   have hS : ¬ pFit x y u := fun hh => hh.1 (sgnI_zero.1 (by assumption))
   exact ⟨(tu2 (ag12 (vi (wf3 hS)) (vi (wf2 hS)) (vi (wf1 hS)) (vi (wf0 hS)) (vi (wf3 hS)) (vi (wf2 hS)) (vi (wf1 hS)) (vi (wf0 hS)) (vi (wf3 hS)) (vi (wf2 hS)) (vi (wf1 hS)) (vi (wf0 hS))) (vf hS)), E21⟩
 · refine rk_cf (T rfl (congrArg Value.bool (decide_eq_false hb16))) ?_
   refine rk_skip ?_
   refine rk_seq ?_
   refine rk_reg ?_
   refine lw_v (.pointer (some ⟨b1, 0, none⟩)) (dv_fieldAddr (a := ⟨b1, 0, none⟩) (a' := ⟨b1, 0, none⟩) fo109_0 (T rfl rfl) rfl) ?_
   have H22 := (e14.blk H11)
   refine lw_v (.agg #[.bool na, .slice Aa la ca]) (dv_loads (l := [.bool na, .slice Aa la ca]) agt107 sz107 (T rfl rfl) H22 rfl) ?_
   refine lw_v (.pointer (some ⟨b1, 2, none⟩)) (dv_fieldAddr (a := ⟨b1, 0, none⟩) (a' := ⟨b1, 2, none⟩) fo109_1 (T rfl rfl) rfl) ?_
   refine lw_v (.agg #[.bool nb, .slice Ab lb cb]) (dv_loads (l := [.bool nb, .slice Ab lb cb]) agt107 sz107 (T rfl rfl) H22 rfl) ?_
   refine lw_v (.pointer (some ⟨b1, 4, none⟩)) (dv_fieldAddr (a := ⟨b1, 0, none⟩) (a' := ⟨b1, 4, none⟩) fo109_2 (T rfl rfl) rfl) ?_
   refine lw_v (.agg #[.bool nm, .slice Am lm cm]) (dv_loads (l := [.bool nm, .slice Am lm cm]) agt107 sz107 (T rfl rfl) H22 rfl) ?_
   refine lw_e (oe_buildSlice (pv := [(0, .agg #[.bool na, .slice Aa la ca]), (1, .agg #[.bool nb, .slice Ab lb cb]), (2, .agg #[.bool nm, .slice Am lm cm])]) (init := [.bool false, .slice none 0 0, .bool false, .slice none 0 0, .bool false, .slice none 0 0]) (l := [.bool na, .slice Aa la ca, .bool nb, .slice Ab lb cb, .bool nm, .slice Am lm cm]) us172 sz107 rfl rfl zc107 (by kernel_rfl) ⟨rfl, (T rfl rfl), ⟨rfl, (T rfl rfl), ⟨rfl, (T rfl rfl), trivial⟩⟩⟩ rfl ?_)
   intro b23 w24 n25
   have N26 : w.heap.size ≤ b23 := n25.eq ▸ E15.size
   have H27 := (e14.blk n8.blk)
   have : b6 < b23 := n25.eq ▸ lt_of_blk H27
   have E28 := below_ext E15 E15.size n25.ext
   have h29 := ((((ha.ext n3.ext).ext n8.ext).ext e14).ext n25.ext)
   have h30 := ((((hb.ext n3.ext).ext n8.ext).ext e14).ext n25.ext)
   have h31 := ((h12.ext e14).ext n25.ext)
   refine lw_e (oe_callf (vs := [.slice (some ⟨b23, 0, none⟩) 3 3]) co105 (ar1 (T rfl rfl)) (gcd3_ok h29 h30 h31 (by first | decide | omega) (by first | decide | omega) (by first | decide | omega) n25.blk) ?_)
   rintro _ w37 ⟨nr32, A33, n34, c35, rfl, e38, h36⟩
   have E39 := below_ext E28 E28.size e38
   have lh36 := Num.len (by decide) h36
   refine lw_e (oe_alloc ze107 ?_)
   intro b40 w41 n42
   have N43 : w.heap.size ≤ b40 := n42.eq ▸ E39.size
   have H44 := (e38.blk n25.blk)
   have : b23 < b40 := n42.eq ▸ lt_of_blk H44
   have E45 := below_ext E39 E39.size n42.ext
   refine lw_e (oe_store (v := .agg #[.bool nr32, .slice A33 n34 c35]) (vs := [.bool nr32, .slice A33 n34 c35]) (l := [.bool nr32, .slice A33 n34 c35]) (T rfl rfl) (T rfl rfl) sz107 rfl rfl rfl n42.blk rfl ?_)
   intro w46 s47 H48
   have E49 := below_st E45 N43 s47
   refine lw_nil ?_
   refine rk_seq ?_
   refine rk_seq ?_
   refine rk_reg ?_
   refine lw_v (.pointer (some ⟨b1, 4, none⟩)) (dv_fieldAddr (a := ⟨b1, 0, none⟩) (a' := ⟨b1, 4, none⟩) fo109_2 (T rfl rfl) rfl) ?_
   refine lw_v (.pointer (some ⟨b1, 4, none⟩)) (dv_fieldAddr (a := ⟨b1, 4, none⟩) (a' := ⟨b1, 4, none⟩) fo107_0 (T rfl rfl) rfl) ?_
   have H50 := (s47.blk (n42.ext.blk (e38.blk (n25.ext.blk H22))) (by omega))
   refine lw_v (.bool nm) (dv_load1 (b := b1) (o := 4) agt4 (T rfl rfl) H50 rfl) ?_
   refine lw_nil ?_
   rcases Bool.eq_false_or_eq_true (nm) with hb51 | hb51
   · refine rk_ct (T rfl (congrArg Value.bool hb51)) ?_
     refine rk_reg ?_
     refine lw_v (.agg #[.bool nr32, .slice A33 n34 c35]) (dv_loads (l := [.bool nr32, .slice A33 n34 c35]) agt107 sz107 (T rfl rfl) H48 rfl) ?_
     have h52 := ((h36.ext n42.ext).st s47 n42.blk (by decide))
     refine lw_e (oe_callf (vs := [.agg #[.bool nr32, .slice A33 n34 c35]]) co117 (ar1 (T rfl rfl)) (minus_ok h52 (by first | decide | omega)) ?_)
     rintro _ w58 ⟨nr53, A54, n55, c56, rfl, e59, h57⟩
     have E60 := below_ext E49 E49.size e59
     have lh57 := Num.len (by decide) h57
     have H61 := (e59.blk H48)
     refine lw_e (oe_store (v := .agg #[.bool nr53, .slice A54 n55 c56]) (vs := [.bool nr53, .slice A54 n55 c56]) (l := [.bool nr53, .slice A54 n55 c56]) (T rfl rfl) (T rfl rfl) sz107 rfl rfl rfl H61 rfl ?_)
     intro w62 s63 H64
     have E65 := below_st E60 N43 s63
     refine lw_nil ?_
     refine rk_seq ?_
     refine rk_reg ?_
     refine lw_v (.pointer (some ⟨b1, 0, none⟩)) (dv_fieldAddr (a := ⟨b1, 0, none⟩) (a' := ⟨b1, 0, none⟩) fo109_0 (T rfl rfl) rfl) ?_
     have H66 := (s63.blk (e59.blk H50) (by omega))
     refine lw_v (.agg #[.bool na, .slice Aa la ca]) (dv_loads (l := [.bool na, .slice Aa la ca]) agt107 sz107 (T rfl rfl) H66 rfl) ?_
     refine lw_v (.agg #[.bool nr53, .slice A54 n55 c56]) (dv_loads (l := [.bool nr53, .slice A54 n55 c56]) agt107 sz107 (T rfl rfl) H64 rfl) ?_
     have h67 := ha.ext E65
     have h68 := (h57.st s63 H61 (by decide))
     refine lw_e (oe_callf (vs := [.agg #[.bool na, .slice Aa la ca], .agg #[.bool nr53, .slice A54 n55 c56]]) co126 (ar2 (T rfl rfl) (T rfl rfl)) (over_ok h67 h68 (by have hu0 : u ≠ 0 := fun h0 => absurd (sgnI_zero.2 h0) (by assumption); first | exact Int.ne_of_gt (gI3_pos hu0) | exact Int.neg_ne_zero.2 (Int.ne_of_gt (gI3_pos hu0))) (by first | decide | omega) (by first | decide | omega)) ?_)
     rintro _ w79 ⟨nr69, A70, n71, c72, nr73, A74, n75, c76, rfl, e80, h77, h78⟩
     have E81 := below_ext E65 E65.size e80
     have lh77 := Num.len (by decide) h77
     have lh78 := Num.len (by decide) h78
     refine lw_v (.tuple #[.agg #[.bool nr69, .slice A70 n71 c72], .agg #[.bool nr73, .slice A74 n75 c76]]) (dv_move (T rfl rfl)) ?_
     refine lw_v (.agg #[.bool nr69, .slice A70 n71 c72]) (dv_extract (vs := #[.agg #[.bool nr69, .slice A70 n71 c72], .agg #[.bool nr73, .slice A74 n75 c76]]) (T rfl rfl) rfl) ?_
     refine lw_v (.agg #[.bool nr73, .slice A74 n75 c76]) (dv_extract (vs := #[.agg #[.bool nr69, .slice A70 n71 c72], .agg #[.bool nr73, .slice A74 n75 c76]]) (T rfl rfl) rfl) ?_
     refine lw_e (oe_alloc ze107 ?_)
     intro b82 w83 n84
     have N85 : w.heap.size ≤ b82 := n84.eq ▸ E81.size
     have H86 := (e80.blk H64)
     have : b40 < b82 := n84.eq ▸ lt_of_blk H86
     have E87 := below_ext E81 E81.size n84.ext
     refine lw_e (oe_alloc ze107 ?_)
     intro b88 w89 n90
     have N91 : w.heap.size ≤ b88 := n90.eq ▸ E87.size
     have : b82 < b88 := n90.eq ▸ lt_of_blk n84.blk
     have E92 := below_ext E87 E87.size n90.ext
     have H93 := (n90.ext.blk n84.blk)
     refine lw_e (oe_store (v := .agg #[.bool nr69, .slice A70 n71 c72]) (vs := [.bool nr69, .slice A70 n71 c72]) (l := [.bool nr69, .slice A70 n71 c72]) (T rfl rfl) (T rfl rfl) sz107 rfl rfl rfl H93 rfl ?_)
     intro w94 s95 H96
     have E97 := below_st E92 N85 s95
     have H98 := (s95.blk n90.blk (by omega))
     refine lw_e (oe_store (v := .agg #[.bool nr73, .slice A74 n75 c76]) (vs := [.bool nr73, .slice A74 n75 c76]) (l := [.bool nr73, .slice A74 n75 c76]) (T rfl rfl) (T rfl rfl) sz107 rfl rfl rfl H98 rfl ?_)
     intro w99 s100 H101
     have E102 := below_st E97 N91 s100
     refine lw_nil ?_
     refine rk_seq ?_
     refine rk_reg ?_
     refine lw_v (.pointer (some ⟨b1, 2, none⟩)) (dv_fieldAddr (a := ⟨b1, 0, none⟩) (a' := ⟨b1, 2, none⟩) fo109_1 (T rfl rfl) rfl) ?_
     have H103 := (s100.blk (s95.blk (n90.ext.blk (n84.ext.blk (e80.blk H66))) (by omega)) (by omega))
     refine lw_v (.agg #[.bool nb, .slice Ab lb cb]) (dv_loads (l := [.bool nb, .slice Ab lb cb]) agt107 sz107 (T rfl rfl) H103 rfl) ?_
     have H104 := (s100.blk (s95.blk (n90.ext.blk (n84.ext.blk H86)) (by omega)) (by omega))
     refine lw_v (.agg #[.bool nr53, .slice A54 n55 c56]) (dv_loads (l := [.bool nr53, .slice A54 n55 c56]) agt107 sz107 (T rfl rfl) H104 rfl) ?_
     have h105 := hb.ext E102
     have h106 := (((((h68.ext e80).ext n84.ext).ext n90.ext).st s95 H93 (by decide)).st s100 H98 (by decide))
     refine lw_e (oe_callf (vs := [.agg #[.bool nb, .slice Ab lb cb], .agg #[.bool nr53, .slice A54 n55 c56]]) co126 (ar2 (T rfl rfl) (T rfl rfl)) (over_ok h105 h106 (by have hu0 : u ≠ 0 := fun h0 => absurd (sgnI_zero.2 h0) (by assumption); first | exact Int.ne_of_gt (gI3_pos hu0) | exact Int.neg_ne_zero.2 (Int.ne_of_gt (gI3_pos hu0))) (by first | decide | omega) (by first | decide | omega)) ?_)
     rintro _ w117 ⟨nr107, A108, n109, c110, nr111, A112, n113, c114, rfl, e118, h115, h116⟩
     have E119 := below_ext E102 E102.size e118
     have lh115 := Num.len (by decide) h115
     have lh116 := Num.len (by decide) h116
     refine lw_v (.tuple #[.agg #[.bool nr107, .slice A108 n109 c110], .agg #[.bool nr111, .slice A112 n113 c114]]) (dv_move (T rfl rfl)) ?_
     refine lw_v (.agg #[.bool nr107, .slice A108 n109 c110]) (dv_extract (vs := #[.agg #[.bool nr107, .slice A108 n109 c110], .agg #[.bool nr111, .slice A112 n113 c114]]) (T rfl rfl) rfl) ?_
     refine lw_v (.agg #[.bool nr111, .slice A112 n113 c114]) (dv_extract (vs := #[.agg #[.bool nr107, .slice A108 n109 c110], .agg #[.bool nr111, .slice A112 n113 c114]]) (T rfl rfl) rfl) ?_
     refine lw_e (oe_alloc ze107 ?_)
     intro b120 w121 n122
     have N123 : w.heap.size ≤ b120 := n122.eq ▸ E119.size
     have H124 := (e118.blk H101)
     have : b88 < b120 := n122.eq ▸ lt_of_blk H124
     have E125 := below_ext E119 E119.size n122.ext
     refine lw_e (oe_alloc ze107 ?_)
     intro b126 w127 n128
     have N129 : w.heap.size ≤ b126 := n128.eq ▸ E125.size
     have : b120 < b126 := n128.eq ▸ lt_of_blk n122.blk
     have E130 := below_ext E125 E125.size n128.ext
     have H131 := (n128.ext.blk n122.blk)
     refine lw_e (oe_store (v := .agg #[.bool nr107, .slice A108 n109 c110]) (vs := [.bool nr107, .slice A108 n109 c110]) (l := [.bool nr107, .slice A108 n109 c110]) (T rfl rfl) (T rfl rfl) sz107 rfl rfl rfl H131 rfl ?_)
     intro w132 s133 H134
     have E135 := below_st E130 N123 s133
     have H136 := (s133.blk n128.blk (by omega))
     refine lw_e (oe_store (v := .agg #[.bool nr111, .slice A112 n113 c114]) (vs := [.bool nr111, .slice A112 n113 c114]) (l := [.bool nr111, .slice A112 n113 c114]) (T rfl rfl) (T rfl rfl) sz107 rfl rfl rfl H136 rfl ?_)
     intro w137 s138 H139
     have E140 := below_st E135 N129 s138
     refine lw_nil ?_
     refine rk_seq ?_
     refine rk_reg ?_
     refine lw_v (.pointer (some ⟨b1, 4, none⟩)) (dv_fieldAddr (a := ⟨b1, 0, none⟩) (a' := ⟨b1, 4, none⟩) fo109_2 (T rfl rfl) rfl) ?_
     have H141 := (s138.blk (s133.blk (n128.ext.blk (n122.ext.blk (e118.blk H103))) (by omega)) (by omega))
     refine lw_v (.agg #[.bool nm, .slice Am lm cm]) (dv_loads (l := [.bool nm, .slice Am lm cm]) agt107 sz107 (T rfl rfl) H141 rfl) ?_
     have H142 := (s138.blk (s133.blk (n128.ext.blk (n122.ext.blk (e118.blk H104))) (by omega)) (by omega))
     refine lw_v (.agg #[.bool nr53, .slice A54 n55 c56]) (dv_loads (l := [.bool nr53, .slice A54 n55 c56]) agt107 sz107 (T rfl rfl) H142 rfl) ?_
     have h143 := hm.ext E140
     have h144 := (((((h106.ext e118).ext n122.ext).ext n128.ext).st s133 H131 (by decide)).st s138 H136 (by decide))
     refine lw_e (oe_callf (vs := [.agg #[.bool nm, .slice Am lm cm], .agg #[.bool nr53, .slice A54 n55 c56]]) co126 (ar2 (T rfl rfl) (T rfl rfl)) (over_ok h143 h144 (by have hu0 : u ≠ 0 := fun h0 => absurd (sgnI_zero.2 h0) (by assumption); first | exact Int.ne_of_gt (gI3_pos hu0) | exact Int.neg_ne_zero.2 (Int.ne_of_gt (gI3_pos hu0))) (by first | decide | omega) (by first | decide | omega)) ?_)
     rintro _ w155 ⟨nr145, A146, n147, c148, nr149, A150, n151, c152, rfl, e156, h153, h154⟩
     have E157 := below_ext E140 E140.size e156
     have lh153 := Num.len (by decide) h153
     have lh154 := Num.len (by decide) h154
     refine lw_v (.tuple #[.agg #[.bool nr145, .slice A146 n147 c148], .agg #[.bool nr149, .slice A150 n151 c152]]) (dv_move (T rfl rfl)) ?_
     refine lw_v (.agg #[.bool nr145, .slice A146 n147 c148]) (dv_extract (vs := #[.agg #[.bool nr145, .slice A146 n147 c148], .agg #[.bool nr149, .slice A150 n151 c152]]) (T rfl rfl) rfl) ?_
     refine lw_v (.agg #[.bool nr149, .slice A150 n151 c152]) (dv_extract (vs := #[.agg #[.bool nr145, .slice A146 n147 c148], .agg #[.bool nr149, .slice A150 n151 c152]]) (T rfl rfl) rfl) ?_
     refine lw_e (oe_alloc ze107 ?_)
     intro b158 w159 n160
     have N161 : w.heap.size ≤ b158 := n160.eq ▸ E157.size
     have H162 := (e156.blk H139)
     have : b126 < b158 := n160.eq ▸ lt_of_blk H162
     have E163 := below_ext E157 E157.size n160.ext
     refine lw_e (oe_alloc ze107 ?_)
     intro b164 w165 n166
     have N167 : w.heap.size ≤ b164 := n166.eq ▸ E163.size
     have : b158 < b164 := n166.eq ▸ lt_of_blk n160.blk
     have E168 := below_ext E163 E163.size n166.ext
     have H169 := (n166.ext.blk n160.blk)
     refine lw_e (oe_store (v := .agg #[.bool nr145, .slice A146 n147 c148]) (vs := [.bool nr145, .slice A146 n147 c148]) (l := [.bool nr145, .slice A146 n147 c148]) (T rfl rfl) (T rfl rfl) sz107 rfl rfl rfl H169 rfl ?_)
     intro w170 s171 H172
     have E173 := below_st E168 N161 s171
     have H174 := (s171.blk n166.blk (by omega))
     refine lw_e (oe_store (v := .agg #[.bool nr149, .slice A150 n151 c152]) (vs := [.bool nr149, .slice A150 n151 c152]) (l := [.bool nr149, .slice A150 n151 c152]) (T rfl rfl) (T rfl rfl) sz107 rfl rfl rfl H174 rfl ?_)
     intro w175 s176 H177
     have E178 := below_st E173 N167 s176
     refine lw_nil ?_
     refine rk_seq ?_
     refine rk_seq ?_
     refine rk_any (fun w => w.heap[b82]? = some (.cells #[.bool nr69, .slice A70 n71 c72] 107) ∧ w.heap[b120]? = some (.cells #[.bool nr107, .slice A108 n109 c110] 107) ∧ w.heap[b158]? = some (.cells #[.bool nr145, .slice A146 n147 c148] 107)) [] mo ?_
     intro w179 d180
     have E181 := below_ext E178 E178.size d180.ext
     have H182 := (d180.ext.blk (s176.blk (s171.blk (n166.ext.blk (n160.ext.blk (e156.blk (s138.blk (s133.blk (n128.ext.blk (n122.ext.blk (e118.blk (s100.blk H96 (by omega))))) (by omega)) (by omega))))) (by omega)) (by omega)))
     have H183 := (d180.ext.blk (s176.blk (s171.blk (n166.ext.blk (n160.ext.blk (e156.blk (s138.blk H134 (by omega))))) (by omega)) (by omega)))
     have H184 := (d180.ext.blk (s176.blk H172 (by omega)))
     refine aw_load 0 (.agg #[.bool nr69, .slice A70 n71 c72]) rfl (by kernel_rfl) .none ⟨H182, H183, H184⟩ (fun _ s => dv_loads (l := [.bool nr69, .slice A70 n71 c72]) agt107 sz107 (T rfl rfl) s.1 rfl) ?_
     refine aw_load 2 (.agg #[.bool nr107, .slice A108 n109 c110]) rfl (by kernel_rfl) .none ⟨H182, H183, H184⟩ (fun _ s => dv_loads (l := [.bool nr107, .slice A108 n109 c110]) agt107 sz107 (T rfl rfl) s.2.1 rfl) ?_
     refine aw_load 4 (.agg #[.bool nr145, .slice A146 n147 c148]) rfl (by kernel_rfl) .none ⟨H182, H183, H184⟩ (fun _ s => dv_loads (l := [.bool nr145, .slice A146 n147 c148]) agt107 sz107 (T rfl rfl) s.2.2 rfl) ?_
     have h185 := (((((((((((((((h77.ext n84.ext).ext n90.ext).st s95 H93 (by decide)).st s100 H98 (by decide)).ext e118).ext n122.ext).ext n128.ext).st s133 H131 (by decide)).st s138 H136 (by decide)).ext e156).ext n160.ext).ext n166.ext).st s171 H169 (by decide)).st s176 H174 (by decide)).ext d180.ext)
     refine aw_one 1 rfl (by kernel_rfl) .none (oe_callf (vs := [.agg #[.bool nr69, .slice A70 n71 c72]]) co104 (ar1 (T rfl rfl)) (nsize_num h185 (by first | omega | (simp; done) | (simp; omega))) ?_)
     rintro _ w186 ⟨rfl, e187⟩
     have E188 := below_ext E181 E181.size e187
     have H189 := (e187.blk H182)
     have H190 := (e187.blk H183)
     have H191 := (e187.blk H184)
     refine ⟨.inr ⟨H189, H190, H191⟩, ?_⟩
     have h192 := (((((((((((h115.ext n122.ext).ext n128.ext).st s133 H131 (by decide)).st s138 H136 (by decide)).ext e156).ext n160.ext).ext n166.ext).st s171 H169 (by decide)).st s176 H174 (by decide)).ext d180.ext).ext e187)
     refine aw_one 3 rfl (by kernel_rfl) .none (oe_callf (vs := [.agg #[.bool nr107, .slice A108 n109 c110]]) co104 (ar1 (T rfl rfl)) (nsize_num h192 (by first | omega | (simp; done) | (simp; omega))) ?_)
     rintro _ w193 ⟨rfl, e194⟩
     have E195 := below_ext E188 E188.size e194
     have H196 := (e194.blk H189)
     have H197 := (e194.blk H190)
     have H198 := (e194.blk H191)
     refine ⟨.inr ⟨H196, H197, H198⟩, ?_⟩
     have h199 := (((((((h153.ext n160.ext).ext n166.ext).st s171 H169 (by decide)).st s176 H174 (by decide)).ext d180.ext).ext e187).ext e194)
     refine aw_one 5 rfl (by kernel_rfl) .none (oe_callf (vs := [.agg #[.bool nr145, .slice A146 n147 c148]]) co104 (ar1 (T rfl rfl)) (nsize_num h199 (by first | omega | (simp; done) | (simp; omega))) ?_)
     rintro _ w200 ⟨rfl, e201⟩
     have E202 := below_ext E195 E195.size e201
     have H203 := (e201.blk H196)
     have H204 := (e201.blk H197)
     have H205 := (e201.blk H198)
     refine ⟨.inr ⟨H203, H204, H205⟩, ?_⟩
     refine aw_pure 6 (.int .i64 (mx (mx ((nbits (x / (-(gI3 x y u))).natAbs : Int)) ((nbits (y / (-(gI3 x y u))).natAbs : Int))) ((nbits (u / (-(gI3 x y u))).natAbs : Int)))) rfl (by kernel_rfl) .none ⟨H203, H204, H205⟩ (fun _ => dv_max3 (a := (nbits (x / (-(gI3 x y u))).natAbs : Int)) (b := (nbits (y / (-(gI3 x y u))).natAbs : Int)) (c := (nbits (u / (-(gI3 x y u))).natAbs : Int)) (T rfl rfl) (T rfl rfl) (T rfl rfl)) ?_
     refine aw_pure 7 (.bool (decide (80 < (mx (mx ((nbits (x / (-(gI3 x y u))).natAbs : Int)) ((nbits (y / (-(gI3 x y u))).natAbs : Int))) ((nbits (u / (-(gI3 x y u))).natAbs : Int)))))) rfl (by kernel_rfl) .none ⟨H203, H204, H205⟩ (fun _ => dv_gtr (a := mx (mx ((nbits (x / (-(gI3 x y u))).natAbs : Int)) ((nbits (y / (-(gI3 x y u))).natAbs : Int))) ((nbits (u / (-(gI3 x y u))).natAbs : Int))) (b := 80) (T rfl rfl) C) ?_
     refine aw_done (by kernel_rfl) ?_
     by_cases hb206 : 80 < (mx (mx ((nbits (x / (-(gI3 x y u))).natAbs : Int)) ((nbits (y / (-(gI3 x y u))).natAbs : Int))) ((nbits (u / (-(gI3 x y u))).natAbs : Int)))
     · refine rk_ct (T rfl (congrArg Value.bool (decide_eq_true hb206))) ?_
       refine rk_seq ?_
       refine rk_reg ?_
       refine lw_v (.agg #[.int .u64 0, .int .u64 0, .int .u64 0, .int .u64 0, .int .u64 0, .int .u64 0, .int .u64 0, .int .u64 0, .int .u64 0, .int .u64 0, .int .u64 0, .int .u64 0]) (dv_build (pv := []) (l := [.int .u64 0, .int .u64 0, .int .u64 0, .int .u64 0, .int .u64 0, .int .u64 0, .int .u64 0, .int .u64 0, .int .u64 0, .int .u64 0, .int .u64 0, .int .u64 0]) zc40 pl40 trivial rfl) ?_
       have H207 := (e201.blk (e194.blk (e187.blk (d180.ext.blk (s176.blk (s171.blk (n166.ext.blk (n160.ext.blk (e156.blk (s138.blk (s133.blk (n128.ext.blk (n122.ext.blk (e118.blk (s100.blk (s95.blk (n90.ext.blk (n84.ext.blk (e80.blk (s63.blk (e59.blk (s47.blk (n42.ext.blk (e38.blk (n25.ext.blk H27))) (by omega))) (by omega))))) (by omega)) (by omega))))) (by omega)) (by omega))))) (by omega)) (by omega))))))
       refine lw_e (oe_store (v := .agg #[.int .u64 0, .int .u64 0, .int .u64 0, .int .u64 0, .int .u64 0, .int .u64 0, .int .u64 0, .int .u64 0, .int .u64 0, .int .u64 0, .int .u64 0, .int .u64 0]) (vs := [.int .u64 0, .int .u64 0, .int .u64 0, .int .u64 0, .int .u64 0, .int .u64 0, .int .u64 0, .int .u64 0, .int .u64 0, .int .u64 0, .int .u64 0, .int .u64 0]) (l := [.int .u64 0, .int .u64 0, .int .u64 0, .int .u64 0, .int .u64 0, .int .u64 0, .int .u64 0, .int .u64 0, .int .u64 0, .int .u64 0, .int .u64 0, .int .u64 0]) (T rfl rfl) (T rfl rfl) sz40 rfl rfl rfl H207 rfl ?_)
       intro w208 s209 H210
       have E211 := below_st E202 N9 s209
       refine lw_v (.bool false) (dv_assign C) ?_
       refine lw_nil ?_
       refine rk_ret Try.func93 (v := .tuple #[.agg #[.int .u64 0, .int .u64 0, .int .u64 0, .int .u64 0, .int .u64 0, .int .u64 0, .int .u64 0, .int .u64 0, .int .u64 0, .int .u64 0, .int .u64 0, .int .u64 0], .bool false]) (res2 Try.results93 (rv_cells (l := [.int .u64 0, .int .u64 0, .int .u64 0, .int .u64 0, .int .u64 0, .int .u64 0, .int .u64 0, .int .u64 0, .int .u64 0, .int .u64 0, .int .u64 0, .int .u64 0]) agt40 sz40 rfl rfl H210 rfl) (rv_tmp rfl rfl)) ⟨_, rfl, ?_⟩
       have ex : x / (-gI3 x y u) = pPt x y u x := (pt_neg (hm.neg_iff.1 (by assumption)) (gI3_dx ..))
       have ey : y / (-gI3 x y u) = pPt x y u y := (pt_neg (hm.neg_iff.1 (by assumption)) (gI3_dy ..))
       have eu : u / (-gI3 x y u) = pPt x y u u := (pt_neg (hm.neg_iff.1 (by assumption)) (gI3_dw ..))
       have h5 := mx3'.1 (by assumption)
       rw [ex, ey, eu] at h5
       have hS : ¬ pFit x y u := fun hh => h5 (sm3_iff.1 hh.2)
       exact ⟨(tu2 (ag12 (vi (wf3 hS)) (vi (wf2 hS)) (vi (wf1 hS)) (vi (wf0 hS)) (vi (wf3 hS)) (vi (wf2 hS)) (vi (wf1 hS)) (vi (wf0 hS)) (vi (wf3 hS)) (vi (wf2 hS)) (vi (wf1 hS)) (vi (wf0 hS))) (vf hS)), E211⟩
     · refine rk_cf (T rfl (congrArg Value.bool (decide_eq_false hb206))) ?_
       refine rk_skip ?_
       refine rk_seq ?_
       refine rk_reg ?_
       refine lw_v (.agg #[.int .u64 0, .int .u64 0, .int .u64 0, .int .u64 0, .int .u64 0, .int .u64 0, .int .u64 0, .int .u64 0, .int .u64 0, .int .u64 0, .int .u64 0, .int .u64 0]) (dv_build (pv := []) (l := [.int .u64 0, .int .u64 0, .int .u64 0, .int .u64 0, .int .u64 0, .int .u64 0, .int .u64 0, .int .u64 0, .int .u64 0, .int .u64 0, .int .u64 0, .int .u64 0]) zc40 pl40 trivial rfl) ?_
       refine lw_e (oe_alloc ze40 ?_)
       intro b212 w213 n214
       have N215 : w.heap.size ≤ b212 := n214.eq ▸ E202.size
       have H216 := (e201.blk (e194.blk (e187.blk (d180.ext.blk H177))))
       have : b164 < b212 := n214.eq ▸ lt_of_blk H216
       have E217 := below_ext E202 E202.size n214.ext
       refine lw_e (oe_store (v := .agg #[.int .u64 0, .int .u64 0, .int .u64 0, .int .u64 0, .int .u64 0, .int .u64 0, .int .u64 0, .int .u64 0, .int .u64 0, .int .u64 0, .int .u64 0, .int .u64 0]) (vs := [.int .u64 0, .int .u64 0, .int .u64 0, .int .u64 0, .int .u64 0, .int .u64 0, .int .u64 0, .int .u64 0, .int .u64 0, .int .u64 0, .int .u64 0, .int .u64 0]) (l := [.int .u64 0, .int .u64 0, .int .u64 0, .int .u64 0, .int .u64 0, .int .u64 0, .int .u64 0, .int .u64 0, .int .u64 0, .int .u64 0, .int .u64 0, .int .u64 0]) (T rfl rfl) (T rfl rfl) sz40 rfl rfl rfl n214.blk rfl ?_)
       intro w218 s219 H220
       have E221 := below_st E217 N215 s219
       refine lw_nil ?_
       refine rk_seq ?_
       refine rk_reg ?_
       have H222 := (s219.blk (n214.ext.blk H203) (by omega))
       refine lw_v (.agg #[.bool nr69, .slice A70 n71 c72]) (dv_loads (l := [.bool nr69, .slice A70 n71 c72]) agt107 sz107 (T rfl rfl) H222 rfl) ?_
       have h223 := (((((h185.ext e187).ext e194).ext e201).ext n214.ext).st s219 n214.blk (by decide))
       refine lw_e (oe_callf (vs := [.agg #[.bool nr69, .slice A70 n71 c72]]) co127 (ar1 (T rfl rfl)) (nwide_ok h223 (by first | decide | omega)) ?_)
       rintro _ w225 ⟨rfl, e226⟩
       have E227 := below_ext E221 E221.size e226
       have bw224 := w_rg (x / (-(gI3 x y u)))
       refine lw_v (.tuple #[.agg #[.int .u64 (wv3 (x / (-(gI3 x y u)))), .int .u64 (wv2 (x / (-(gI3 x y u)))), .int .u64 (wv1 (x / (-(gI3 x y u)))), .int .u64 (wv0 (x / (-(gI3 x y u))))], .bool (decide (fits (x / (-(gI3 x y u)))))]) (dv_move (T rfl rfl)) ?_
       refine lw_v (.agg #[.int .u64 (wv3 (x / (-(gI3 x y u)))), .int .u64 (wv2 (x / (-(gI3 x y u)))), .int .u64 (wv1 (x / (-(gI3 x y u)))), .int .u64 (wv0 (x / (-(gI3 x y u))))]) (dv_extract (vs := #[.agg #[.int .u64 (wv3 (x / (-(gI3 x y u)))), .int .u64 (wv2 (x / (-(gI3 x y u)))), .int .u64 (wv1 (x / (-(gI3 x y u)))), .int .u64 (wv0 (x / (-(gI3 x y u))))], .bool (decide (fits (x / (-(gI3 x y u)))))]) (T rfl rfl) rfl) ?_
       refine lw_v (.bool (decide (fits (x / (-(gI3 x y u)))))) (dv_extract (vs := #[.agg #[.int .u64 (wv3 (x / (-(gI3 x y u)))), .int .u64 (wv2 (x / (-(gI3 x y u)))), .int .u64 (wv1 (x / (-(gI3 x y u)))), .int .u64 (wv0 (x / (-(gI3 x y u))))], .bool (decide (fits (x / (-(gI3 x y u)))))]) (T rfl rfl) rfl) ?_
       refine lw_v (.pointer (some ⟨b212, 0, none⟩)) (dv_fieldAddr (a := ⟨b212, 0, none⟩) (a' := ⟨b212, 0, none⟩) fo40_0 (T rfl rfl) rfl) ?_
       have H228 := (e226.blk H220)
       refine lw_e (oe_store (v := .agg #[.int .u64 (wv3 (x / (-(gI3 x y u)))), .int .u64 (wv2 (x / (-(gI3 x y u)))), .int .u64 (wv1 (x / (-(gI3 x y u)))), .int .u64 (wv0 (x / (-(gI3 x y u))))]) (vs := [.int .u64 (wv3 (x / (-(gI3 x y u)))), .int .u64 (wv2 (x / (-(gI3 x y u)))), .int .u64 (wv1 (x / (-(gI3 x y u)))), .int .u64 (wv0 (x / (-(gI3 x y u))))]) (l := [.int .u64 (wv3 (x / (-(gI3 x y u)))), .int .u64 (wv2 (x / (-(gI3 x y u)))), .int .u64 (wv1 (x / (-(gI3 x y u)))), .int .u64 (wv0 (x / (-(gI3 x y u)))), .int .u64 0, .int .u64 0, .int .u64 0, .int .u64 0, .int .u64 0, .int .u64 0, .int .u64 0, .int .u64 0]) (T rfl rfl) (T rfl rfl) sz38 rfl rfl rfl H228 rfl ?_)
       intro w229 s230 H231
       have E232 := below_st E227 N215 s230
       refine lw_nil ?_
       refine rk_seq ?_
       refine rk_reg ?_
       have H233 := (s230.blk (e226.blk (s219.blk (n214.ext.blk H204) (by omega))) (by omega))
       refine lw_v (.agg #[.bool nr107, .slice A108 n109 c110]) (dv_loads (l := [.bool nr107, .slice A108 n109 c110]) agt107 sz107 (T rfl rfl) H233 rfl) ?_
       have h234 := ((((((h192.ext e194).ext e201).ext n214.ext).st s219 n214.blk (by decide)).ext e226).st s230 H228 (by decide))
       refine lw_e (oe_callf (vs := [.agg #[.bool nr107, .slice A108 n109 c110]]) co127 (ar1 (T rfl rfl)) (nwide_ok h234 (by first | decide | omega)) ?_)
       rintro _ w236 ⟨rfl, e237⟩
       have E238 := below_ext E232 E232.size e237
       have bw235 := w_rg (y / (-(gI3 x y u)))
       refine lw_v (.tuple #[.agg #[.int .u64 (wv3 (y / (-(gI3 x y u)))), .int .u64 (wv2 (y / (-(gI3 x y u)))), .int .u64 (wv1 (y / (-(gI3 x y u)))), .int .u64 (wv0 (y / (-(gI3 x y u))))], .bool (decide (fits (y / (-(gI3 x y u)))))]) (dv_move (T rfl rfl)) ?_
       refine lw_v (.agg #[.int .u64 (wv3 (y / (-(gI3 x y u)))), .int .u64 (wv2 (y / (-(gI3 x y u)))), .int .u64 (wv1 (y / (-(gI3 x y u)))), .int .u64 (wv0 (y / (-(gI3 x y u))))]) (dv_extract (vs := #[.agg #[.int .u64 (wv3 (y / (-(gI3 x y u)))), .int .u64 (wv2 (y / (-(gI3 x y u)))), .int .u64 (wv1 (y / (-(gI3 x y u)))), .int .u64 (wv0 (y / (-(gI3 x y u))))], .bool (decide (fits (y / (-(gI3 x y u)))))]) (T rfl rfl) rfl) ?_
       refine lw_v (.bool (decide (fits (y / (-(gI3 x y u)))))) (dv_extract (vs := #[.agg #[.int .u64 (wv3 (y / (-(gI3 x y u)))), .int .u64 (wv2 (y / (-(gI3 x y u)))), .int .u64 (wv1 (y / (-(gI3 x y u)))), .int .u64 (wv0 (y / (-(gI3 x y u))))], .bool (decide (fits (y / (-(gI3 x y u)))))]) (T rfl rfl) rfl) ?_
       refine lw_v (.pointer (some ⟨b212, 4, none⟩)) (dv_fieldAddr (a := ⟨b212, 0, none⟩) (a' := ⟨b212, 4, none⟩) fo40_1 (T rfl rfl) rfl) ?_
       have H239 := (e237.blk H231)
       refine lw_e (oe_store (v := .agg #[.int .u64 (wv3 (y / (-(gI3 x y u)))), .int .u64 (wv2 (y / (-(gI3 x y u)))), .int .u64 (wv1 (y / (-(gI3 x y u)))), .int .u64 (wv0 (y / (-(gI3 x y u))))]) (vs := [.int .u64 (wv3 (y / (-(gI3 x y u)))), .int .u64 (wv2 (y / (-(gI3 x y u)))), .int .u64 (wv1 (y / (-(gI3 x y u)))), .int .u64 (wv0 (y / (-(gI3 x y u))))]) (l := [.int .u64 (wv3 (x / (-(gI3 x y u)))), .int .u64 (wv2 (x / (-(gI3 x y u)))), .int .u64 (wv1 (x / (-(gI3 x y u)))), .int .u64 (wv0 (x / (-(gI3 x y u)))), .int .u64 (wv3 (y / (-(gI3 x y u)))), .int .u64 (wv2 (y / (-(gI3 x y u)))), .int .u64 (wv1 (y / (-(gI3 x y u)))), .int .u64 (wv0 (y / (-(gI3 x y u)))), .int .u64 0, .int .u64 0, .int .u64 0, .int .u64 0]) (T rfl rfl) (T rfl rfl) sz38 rfl rfl rfl H239 rfl ?_)
       intro w240 s241 H242
       have E243 := below_st E238 N215 s241
       refine lw_nil ?_
       refine rk_seq ?_
       refine rk_reg ?_
       have H244 := (s241.blk (e237.blk (s230.blk (e226.blk (s219.blk (n214.ext.blk H205) (by omega))) (by omega))) (by omega))
       refine lw_v (.agg #[.bool nr145, .slice A146 n147 c148]) (dv_loads (l := [.bool nr145, .slice A146 n147 c148]) agt107 sz107 (T rfl rfl) H244 rfl) ?_
       have h245 := (((((((h199.ext e201).ext n214.ext).st s219 n214.blk (by decide)).ext e226).st s230 H228 (by decide)).ext e237).st s241 H239 (by decide))
       refine lw_e (oe_callf (vs := [.agg #[.bool nr145, .slice A146 n147 c148]]) co127 (ar1 (T rfl rfl)) (nwide_ok h245 (by first | decide | omega)) ?_)
       rintro _ w247 ⟨rfl, e248⟩
       have E249 := below_ext E243 E243.size e248
       have bw246 := w_rg (u / (-(gI3 x y u)))
       refine lw_v (.tuple #[.agg #[.int .u64 (wv3 (u / (-(gI3 x y u)))), .int .u64 (wv2 (u / (-(gI3 x y u)))), .int .u64 (wv1 (u / (-(gI3 x y u)))), .int .u64 (wv0 (u / (-(gI3 x y u))))], .bool (decide (fits (u / (-(gI3 x y u)))))]) (dv_move (T rfl rfl)) ?_
       refine lw_v (.agg #[.int .u64 (wv3 (u / (-(gI3 x y u)))), .int .u64 (wv2 (u / (-(gI3 x y u)))), .int .u64 (wv1 (u / (-(gI3 x y u)))), .int .u64 (wv0 (u / (-(gI3 x y u))))]) (dv_extract (vs := #[.agg #[.int .u64 (wv3 (u / (-(gI3 x y u)))), .int .u64 (wv2 (u / (-(gI3 x y u)))), .int .u64 (wv1 (u / (-(gI3 x y u)))), .int .u64 (wv0 (u / (-(gI3 x y u))))], .bool (decide (fits (u / (-(gI3 x y u)))))]) (T rfl rfl) rfl) ?_
       refine lw_v (.bool (decide (fits (u / (-(gI3 x y u)))))) (dv_extract (vs := #[.agg #[.int .u64 (wv3 (u / (-(gI3 x y u)))), .int .u64 (wv2 (u / (-(gI3 x y u)))), .int .u64 (wv1 (u / (-(gI3 x y u)))), .int .u64 (wv0 (u / (-(gI3 x y u))))], .bool (decide (fits (u / (-(gI3 x y u)))))]) (T rfl rfl) rfl) ?_
       refine lw_v (.pointer (some ⟨b212, 8, none⟩)) (dv_fieldAddr (a := ⟨b212, 0, none⟩) (a' := ⟨b212, 8, none⟩) fo40_2 (T rfl rfl) rfl) ?_
       have H250 := (e248.blk H242)
       refine lw_e (oe_store (v := .agg #[.int .u64 (wv3 (u / (-(gI3 x y u)))), .int .u64 (wv2 (u / (-(gI3 x y u)))), .int .u64 (wv1 (u / (-(gI3 x y u)))), .int .u64 (wv0 (u / (-(gI3 x y u))))]) (vs := [.int .u64 (wv3 (u / (-(gI3 x y u)))), .int .u64 (wv2 (u / (-(gI3 x y u)))), .int .u64 (wv1 (u / (-(gI3 x y u)))), .int .u64 (wv0 (u / (-(gI3 x y u))))]) (l := [.int .u64 (wv3 (x / (-(gI3 x y u)))), .int .u64 (wv2 (x / (-(gI3 x y u)))), .int .u64 (wv1 (x / (-(gI3 x y u)))), .int .u64 (wv0 (x / (-(gI3 x y u)))), .int .u64 (wv3 (y / (-(gI3 x y u)))), .int .u64 (wv2 (y / (-(gI3 x y u)))), .int .u64 (wv1 (y / (-(gI3 x y u)))), .int .u64 (wv0 (y / (-(gI3 x y u)))), .int .u64 (wv3 (u / (-(gI3 x y u)))), .int .u64 (wv2 (u / (-(gI3 x y u)))), .int .u64 (wv1 (u / (-(gI3 x y u)))), .int .u64 (wv0 (u / (-(gI3 x y u))))]) (T rfl rfl) (T rfl rfl) sz38 rfl rfl rfl H250 rfl ?_)
       intro w251 s252 H253
       have E254 := below_st E249 N215 s252
       refine lw_nil ?_
       refine rk_seq ?_
       refine rk_reg ?_
       refine lw_v (.agg #[.int .u64 (wv3 (x / (-(gI3 x y u)))), .int .u64 (wv2 (x / (-(gI3 x y u)))), .int .u64 (wv1 (x / (-(gI3 x y u)))), .int .u64 (wv0 (x / (-(gI3 x y u)))), .int .u64 (wv3 (y / (-(gI3 x y u)))), .int .u64 (wv2 (y / (-(gI3 x y u)))), .int .u64 (wv1 (y / (-(gI3 x y u)))), .int .u64 (wv0 (y / (-(gI3 x y u)))), .int .u64 (wv3 (u / (-(gI3 x y u)))), .int .u64 (wv2 (u / (-(gI3 x y u)))), .int .u64 (wv1 (u / (-(gI3 x y u)))), .int .u64 (wv0 (u / (-(gI3 x y u))))]) (dv_loads (l := [.int .u64 (wv3 (x / (-(gI3 x y u)))), .int .u64 (wv2 (x / (-(gI3 x y u)))), .int .u64 (wv1 (x / (-(gI3 x y u)))), .int .u64 (wv0 (x / (-(gI3 x y u)))), .int .u64 (wv3 (y / (-(gI3 x y u)))), .int .u64 (wv2 (y / (-(gI3 x y u)))), .int .u64 (wv1 (y / (-(gI3 x y u)))), .int .u64 (wv0 (y / (-(gI3 x y u)))), .int .u64 (wv3 (u / (-(gI3 x y u)))), .int .u64 (wv2 (u / (-(gI3 x y u)))), .int .u64 (wv1 (u / (-(gI3 x y u)))), .int .u64 (wv0 (u / (-(gI3 x y u))))]) agt40 sz40 (T rfl rfl) H253 rfl) ?_
       have H255 := (s252.blk (e248.blk (s241.blk (e237.blk (s230.blk (e226.blk (s219.blk (n214.ext.blk (e201.blk (e194.blk (e187.blk (d180.ext.blk (s176.blk (s171.blk (n166.ext.blk (n160.ext.blk (e156.blk (s138.blk (s133.blk (n128.ext.blk (n122.ext.blk (e118.blk (s100.blk (s95.blk (n90.ext.blk (n84.ext.blk (e80.blk (s63.blk (e59.blk (s47.blk (n42.ext.blk (e38.blk (n25.ext.blk H27))) (by omega))) (by omega))))) (by omega)) (by omega))))) (by omega)) (by omega))))) (by omega)) (by omega))))))) (by omega))) (by omega))) (by omega))) (by omega))
       refine lw_e (oe_store (v := .agg #[.int .u64 (wv3 (x / (-(gI3 x y u)))), .int .u64 (wv2 (x / (-(gI3 x y u)))), .int .u64 (wv1 (x / (-(gI3 x y u)))), .int .u64 (wv0 (x / (-(gI3 x y u)))), .int .u64 (wv3 (y / (-(gI3 x y u)))), .int .u64 (wv2 (y / (-(gI3 x y u)))), .int .u64 (wv1 (y / (-(gI3 x y u)))), .int .u64 (wv0 (y / (-(gI3 x y u)))), .int .u64 (wv3 (u / (-(gI3 x y u)))), .int .u64 (wv2 (u / (-(gI3 x y u)))), .int .u64 (wv1 (u / (-(gI3 x y u)))), .int .u64 (wv0 (u / (-(gI3 x y u))))]) (vs := [.int .u64 (wv3 (x / (-(gI3 x y u)))), .int .u64 (wv2 (x / (-(gI3 x y u)))), .int .u64 (wv1 (x / (-(gI3 x y u)))), .int .u64 (wv0 (x / (-(gI3 x y u)))), .int .u64 (wv3 (y / (-(gI3 x y u)))), .int .u64 (wv2 (y / (-(gI3 x y u)))), .int .u64 (wv1 (y / (-(gI3 x y u)))), .int .u64 (wv0 (y / (-(gI3 x y u)))), .int .u64 (wv3 (u / (-(gI3 x y u)))), .int .u64 (wv2 (u / (-(gI3 x y u)))), .int .u64 (wv1 (u / (-(gI3 x y u)))), .int .u64 (wv0 (u / (-(gI3 x y u))))]) (l := [.int .u64 (wv3 (x / (-(gI3 x y u)))), .int .u64 (wv2 (x / (-(gI3 x y u)))), .int .u64 (wv1 (x / (-(gI3 x y u)))), .int .u64 (wv0 (x / (-(gI3 x y u)))), .int .u64 (wv3 (y / (-(gI3 x y u)))), .int .u64 (wv2 (y / (-(gI3 x y u)))), .int .u64 (wv1 (y / (-(gI3 x y u)))), .int .u64 (wv0 (y / (-(gI3 x y u)))), .int .u64 (wv3 (u / (-(gI3 x y u)))), .int .u64 (wv2 (u / (-(gI3 x y u)))), .int .u64 (wv1 (u / (-(gI3 x y u)))), .int .u64 (wv0 (u / (-(gI3 x y u))))]) (T rfl rfl) (T rfl rfl) sz40 rfl rfl rfl H255 rfl ?_)
       intro w256 s257 H258
       have E259 := below_st E254 N9 s257
       refine lw_v (.bool true) (dv_assign C) ?_
       refine lw_nil ?_
       refine rk_ret Try.func93 (v := .tuple #[.agg #[.int .u64 (wv3 (x / (-(gI3 x y u)))), .int .u64 (wv2 (x / (-(gI3 x y u)))), .int .u64 (wv1 (x / (-(gI3 x y u)))), .int .u64 (wv0 (x / (-(gI3 x y u)))), .int .u64 (wv3 (y / (-(gI3 x y u)))), .int .u64 (wv2 (y / (-(gI3 x y u)))), .int .u64 (wv1 (y / (-(gI3 x y u)))), .int .u64 (wv0 (y / (-(gI3 x y u)))), .int .u64 (wv3 (u / (-(gI3 x y u)))), .int .u64 (wv2 (u / (-(gI3 x y u)))), .int .u64 (wv1 (u / (-(gI3 x y u)))), .int .u64 (wv0 (u / (-(gI3 x y u))))], .bool true]) (res2 Try.results93 (rv_cells (l := [.int .u64 (wv3 (x / (-(gI3 x y u)))), .int .u64 (wv2 (x / (-(gI3 x y u)))), .int .u64 (wv1 (x / (-(gI3 x y u)))), .int .u64 (wv0 (x / (-(gI3 x y u)))), .int .u64 (wv3 (y / (-(gI3 x y u)))), .int .u64 (wv2 (y / (-(gI3 x y u)))), .int .u64 (wv1 (y / (-(gI3 x y u)))), .int .u64 (wv0 (y / (-(gI3 x y u)))), .int .u64 (wv3 (u / (-(gI3 x y u)))), .int .u64 (wv2 (u / (-(gI3 x y u)))), .int .u64 (wv1 (u / (-(gI3 x y u)))), .int .u64 (wv0 (u / (-(gI3 x y u))))]) agt40 sz40 rfl rfl H258 rfl) (rv_tmp rfl rfl)) ⟨_, rfl, ?_⟩
       have ex : x / (-gI3 x y u) = pPt x y u x := (pt_neg (hm.neg_iff.1 (by assumption)) (gI3_dx ..))
       have ey : y / (-gI3 x y u) = pPt x y u y := (pt_neg (hm.neg_iff.1 (by assumption)) (gI3_dy ..))
       have eu : u / (-gI3 x y u) = pPt x y u u := (pt_neg (hm.neg_iff.1 (by assumption)) (gI3_dw ..))
       have h5 := mx3.1 (Int.not_lt.1 (by assumption))
       rw [ex, ey, eu] at h5
       have hS : pFit x y u := ⟨fun h0 => absurd (sgnI_zero.2 h0) (by assumption), sm3_iff.2 h5⟩
       exact ⟨(tu2 (ag12 (vi (by rw [pkz_t hS, ex])) (vi (by rw [pkz_t hS, ex])) (vi (by rw [pkz_t hS, ex])) (vi (by rw [pkz_t hS, ex])) (vi (by rw [pkz_t hS, ey])) (vi (by rw [pkz_t hS, ey])) (vi (by rw [pkz_t hS, ey])) (vi (by rw [pkz_t hS, ey])) (vi (by rw [pkz_t hS, eu])) (vi (by rw [pkz_t hS, eu])) (vi (by rw [pkz_t hS, eu])) (vi (by rw [pkz_t hS, eu]))) (vt hS)), E259⟩
   · refine rk_cf (T rfl (congrArg Value.bool hb51)) ?_
     refine rk_skip ?_
     refine rk_seq ?_
     refine rk_reg ?_
     refine lw_v (.pointer (some ⟨b1, 0, none⟩)) (dv_fieldAddr (a := ⟨b1, 0, none⟩) (a' := ⟨b1, 0, none⟩) fo109_0 (T rfl rfl) rfl) ?_
     refine lw_v (.agg #[.bool na, .slice Aa la ca]) (dv_loads (l := [.bool na, .slice Aa la ca]) agt107 sz107 (T rfl rfl) H50 rfl) ?_
     refine lw_v (.agg #[.bool nr32, .slice A33 n34 c35]) (dv_loads (l := [.bool nr32, .slice A33 n34 c35]) agt107 sz107 (T rfl rfl) H48 rfl) ?_
     have h260 := ha.ext E49
     have h261 := ((h36.ext n42.ext).st s47 n42.blk (by decide))
     refine lw_e (oe_callf (vs := [.agg #[.bool na, .slice Aa la ca], .agg #[.bool nr32, .slice A33 n34 c35]]) co126 (ar2 (T rfl rfl) (T rfl rfl)) (over_ok h260 h261 (by have hu0 : u ≠ 0 := fun h0 => absurd (sgnI_zero.2 h0) (by assumption); first | exact Int.ne_of_gt (gI3_pos hu0) | exact Int.neg_ne_zero.2 (Int.ne_of_gt (gI3_pos hu0))) (by first | decide | omega) (by first | decide | omega)) ?_)
     rintro _ w272 ⟨nr262, A263, n264, c265, nr266, A267, n268, c269, rfl, e273, h270, h271⟩
     have E274 := below_ext E49 E49.size e273
     have lh270 := Num.len (by decide) h270
     have lh271 := Num.len (by decide) h271
     refine lw_v (.tuple #[.agg #[.bool nr262, .slice A263 n264 c265], .agg #[.bool nr266, .slice A267 n268 c269]]) (dv_move (T rfl rfl)) ?_
     refine lw_v (.agg #[.bool nr262, .slice A263 n264 c265]) (dv_extract (vs := #[.agg #[.bool nr262, .slice A263 n264 c265], .agg #[.bool nr266, .slice A267 n268 c269]]) (T rfl rfl) rfl) ?_
     refine lw_v (.agg #[.bool nr266, .slice A267 n268 c269]) (dv_extract (vs := #[.agg #[.bool nr262, .slice A263 n264 c265], .agg #[.bool nr266, .slice A267 n268 c269]]) (T rfl rfl) rfl) ?_
     refine lw_e (oe_alloc ze107 ?_)
     intro b275 w276 n277
     have N278 : w.heap.size ≤ b275 := n277.eq ▸ E274.size
     have H279 := (e273.blk H48)
     have : b40 < b275 := n277.eq ▸ lt_of_blk H279
     have E280 := below_ext E274 E274.size n277.ext
     refine lw_e (oe_alloc ze107 ?_)
     intro b281 w282 n283
     have N284 : w.heap.size ≤ b281 := n283.eq ▸ E280.size
     have : b275 < b281 := n283.eq ▸ lt_of_blk n277.blk
     have E285 := below_ext E280 E280.size n283.ext
     have H286 := (n283.ext.blk n277.blk)
     refine lw_e (oe_store (v := .agg #[.bool nr262, .slice A263 n264 c265]) (vs := [.bool nr262, .slice A263 n264 c265]) (l := [.bool nr262, .slice A263 n264 c265]) (T rfl rfl) (T rfl rfl) sz107 rfl rfl rfl H286 rfl ?_)
     intro w287 s288 H289
     have E290 := below_st E285 N278 s288
     have H291 := (s288.blk n283.blk (by omega))
     refine lw_e (oe_store (v := .agg #[.bool nr266, .slice A267 n268 c269]) (vs := [.bool nr266, .slice A267 n268 c269]) (l := [.bool nr266, .slice A267 n268 c269]) (T rfl rfl) (T rfl rfl) sz107 rfl rfl rfl H291 rfl ?_)
     intro w292 s293 H294
     have E295 := below_st E290 N284 s293
     refine lw_nil ?_
     refine rk_seq ?_
     refine rk_reg ?_
     refine lw_v (.pointer (some ⟨b1, 2, none⟩)) (dv_fieldAddr (a := ⟨b1, 0, none⟩) (a' := ⟨b1, 2, none⟩) fo109_1 (T rfl rfl) rfl) ?_
     have H296 := (s293.blk (s288.blk (n283.ext.blk (n277.ext.blk (e273.blk H50))) (by omega)) (by omega))
     refine lw_v (.agg #[.bool nb, .slice Ab lb cb]) (dv_loads (l := [.bool nb, .slice Ab lb cb]) agt107 sz107 (T rfl rfl) H296 rfl) ?_
     have H297 := (s293.blk (s288.blk (n283.ext.blk (n277.ext.blk H279)) (by omega)) (by omega))
     refine lw_v (.agg #[.bool nr32, .slice A33 n34 c35]) (dv_loads (l := [.bool nr32, .slice A33 n34 c35]) agt107 sz107 (T rfl rfl) H297 rfl) ?_
     have h298 := hb.ext E295
     have h299 := (((((h261.ext e273).ext n277.ext).ext n283.ext).st s288 H286 (by decide)).st s293 H291 (by decide))
     refine lw_e (oe_callf (vs := [.agg #[.bool nb, .slice Ab lb cb], .agg #[.bool nr32, .slice A33 n34 c35]]) co126 (ar2 (T rfl rfl) (T rfl rfl)) (over_ok h298 h299 (by have hu0 : u ≠ 0 := fun h0 => absurd (sgnI_zero.2 h0) (by assumption); first | exact Int.ne_of_gt (gI3_pos hu0) | exact Int.neg_ne_zero.2 (Int.ne_of_gt (gI3_pos hu0))) (by first | decide | omega) (by first | decide | omega)) ?_)
     rintro _ w310 ⟨nr300, A301, n302, c303, nr304, A305, n306, c307, rfl, e311, h308, h309⟩
     have E312 := below_ext E295 E295.size e311
     have lh308 := Num.len (by decide) h308
     have lh309 := Num.len (by decide) h309
     refine lw_v (.tuple #[.agg #[.bool nr300, .slice A301 n302 c303], .agg #[.bool nr304, .slice A305 n306 c307]]) (dv_move (T rfl rfl)) ?_
     refine lw_v (.agg #[.bool nr300, .slice A301 n302 c303]) (dv_extract (vs := #[.agg #[.bool nr300, .slice A301 n302 c303], .agg #[.bool nr304, .slice A305 n306 c307]]) (T rfl rfl) rfl) ?_
     refine lw_v (.agg #[.bool nr304, .slice A305 n306 c307]) (dv_extract (vs := #[.agg #[.bool nr300, .slice A301 n302 c303], .agg #[.bool nr304, .slice A305 n306 c307]]) (T rfl rfl) rfl) ?_
     refine lw_e (oe_alloc ze107 ?_)
     intro b313 w314 n315
     have N316 : w.heap.size ≤ b313 := n315.eq ▸ E312.size
     have H317 := (e311.blk H294)
     have : b281 < b313 := n315.eq ▸ lt_of_blk H317
     have E318 := below_ext E312 E312.size n315.ext
     refine lw_e (oe_alloc ze107 ?_)
     intro b319 w320 n321
     have N322 : w.heap.size ≤ b319 := n321.eq ▸ E318.size
     have : b313 < b319 := n321.eq ▸ lt_of_blk n315.blk
     have E323 := below_ext E318 E318.size n321.ext
     have H324 := (n321.ext.blk n315.blk)
     refine lw_e (oe_store (v := .agg #[.bool nr300, .slice A301 n302 c303]) (vs := [.bool nr300, .slice A301 n302 c303]) (l := [.bool nr300, .slice A301 n302 c303]) (T rfl rfl) (T rfl rfl) sz107 rfl rfl rfl H324 rfl ?_)
     intro w325 s326 H327
     have E328 := below_st E323 N316 s326
     have H329 := (s326.blk n321.blk (by omega))
     refine lw_e (oe_store (v := .agg #[.bool nr304, .slice A305 n306 c307]) (vs := [.bool nr304, .slice A305 n306 c307]) (l := [.bool nr304, .slice A305 n306 c307]) (T rfl rfl) (T rfl rfl) sz107 rfl rfl rfl H329 rfl ?_)
     intro w330 s331 H332
     have E333 := below_st E328 N322 s331
     refine lw_nil ?_
     refine rk_seq ?_
     refine rk_reg ?_
     refine lw_v (.pointer (some ⟨b1, 4, none⟩)) (dv_fieldAddr (a := ⟨b1, 0, none⟩) (a' := ⟨b1, 4, none⟩) fo109_2 (T rfl rfl) rfl) ?_
     have H334 := (s331.blk (s326.blk (n321.ext.blk (n315.ext.blk (e311.blk H296))) (by omega)) (by omega))
     refine lw_v (.agg #[.bool nm, .slice Am lm cm]) (dv_loads (l := [.bool nm, .slice Am lm cm]) agt107 sz107 (T rfl rfl) H334 rfl) ?_
     have H335 := (s331.blk (s326.blk (n321.ext.blk (n315.ext.blk (e311.blk H297))) (by omega)) (by omega))
     refine lw_v (.agg #[.bool nr32, .slice A33 n34 c35]) (dv_loads (l := [.bool nr32, .slice A33 n34 c35]) agt107 sz107 (T rfl rfl) H335 rfl) ?_
     have h336 := hm.ext E333
     have h337 := (((((h299.ext e311).ext n315.ext).ext n321.ext).st s326 H324 (by decide)).st s331 H329 (by decide))
     refine lw_e (oe_callf (vs := [.agg #[.bool nm, .slice Am lm cm], .agg #[.bool nr32, .slice A33 n34 c35]]) co126 (ar2 (T rfl rfl) (T rfl rfl)) (over_ok h336 h337 (by have hu0 : u ≠ 0 := fun h0 => absurd (sgnI_zero.2 h0) (by assumption); first | exact Int.ne_of_gt (gI3_pos hu0) | exact Int.neg_ne_zero.2 (Int.ne_of_gt (gI3_pos hu0))) (by first | decide | omega) (by first | decide | omega)) ?_)
     rintro _ w348 ⟨nr338, A339, n340, c341, nr342, A343, n344, c345, rfl, e349, h346, h347⟩
     have E350 := below_ext E333 E333.size e349
     have lh346 := Num.len (by decide) h346
     have lh347 := Num.len (by decide) h347
     refine lw_v (.tuple #[.agg #[.bool nr338, .slice A339 n340 c341], .agg #[.bool nr342, .slice A343 n344 c345]]) (dv_move (T rfl rfl)) ?_
     refine lw_v (.agg #[.bool nr338, .slice A339 n340 c341]) (dv_extract (vs := #[.agg #[.bool nr338, .slice A339 n340 c341], .agg #[.bool nr342, .slice A343 n344 c345]]) (T rfl rfl) rfl) ?_
     refine lw_v (.agg #[.bool nr342, .slice A343 n344 c345]) (dv_extract (vs := #[.agg #[.bool nr338, .slice A339 n340 c341], .agg #[.bool nr342, .slice A343 n344 c345]]) (T rfl rfl) rfl) ?_
     refine lw_e (oe_alloc ze107 ?_)
     intro b351 w352 n353
     have N354 : w.heap.size ≤ b351 := n353.eq ▸ E350.size
     have H355 := (e349.blk H332)
     have : b319 < b351 := n353.eq ▸ lt_of_blk H355
     have E356 := below_ext E350 E350.size n353.ext
     refine lw_e (oe_alloc ze107 ?_)
     intro b357 w358 n359
     have N360 : w.heap.size ≤ b357 := n359.eq ▸ E356.size
     have : b351 < b357 := n359.eq ▸ lt_of_blk n353.blk
     have E361 := below_ext E356 E356.size n359.ext
     have H362 := (n359.ext.blk n353.blk)
     refine lw_e (oe_store (v := .agg #[.bool nr338, .slice A339 n340 c341]) (vs := [.bool nr338, .slice A339 n340 c341]) (l := [.bool nr338, .slice A339 n340 c341]) (T rfl rfl) (T rfl rfl) sz107 rfl rfl rfl H362 rfl ?_)
     intro w363 s364 H365
     have E366 := below_st E361 N354 s364
     have H367 := (s364.blk n359.blk (by omega))
     refine lw_e (oe_store (v := .agg #[.bool nr342, .slice A343 n344 c345]) (vs := [.bool nr342, .slice A343 n344 c345]) (l := [.bool nr342, .slice A343 n344 c345]) (T rfl rfl) (T rfl rfl) sz107 rfl rfl rfl H367 rfl ?_)
     intro w368 s369 H370
     have E371 := below_st E366 N360 s369
     refine lw_nil ?_
     refine rk_seq ?_
     refine rk_seq ?_
     refine rk_any (fun w => w.heap[b275]? = some (.cells #[.bool nr262, .slice A263 n264 c265] 107) ∧ w.heap[b313]? = some (.cells #[.bool nr300, .slice A301 n302 c303] 107) ∧ w.heap[b351]? = some (.cells #[.bool nr338, .slice A339 n340 c341] 107)) [] mo ?_
     intro w372 d373
     have E374 := below_ext E371 E371.size d373.ext
     have H375 := (d373.ext.blk (s369.blk (s364.blk (n359.ext.blk (n353.ext.blk (e349.blk (s331.blk (s326.blk (n321.ext.blk (n315.ext.blk (e311.blk (s293.blk H289 (by omega))))) (by omega)) (by omega))))) (by omega)) (by omega)))
     have H376 := (d373.ext.blk (s369.blk (s364.blk (n359.ext.blk (n353.ext.blk (e349.blk (s331.blk H327 (by omega))))) (by omega)) (by omega)))
     have H377 := (d373.ext.blk (s369.blk H365 (by omega)))
     refine aw_load 0 (.agg #[.bool nr262, .slice A263 n264 c265]) rfl (by kernel_rfl) .none ⟨H375, H376, H377⟩ (fun _ s => dv_loads (l := [.bool nr262, .slice A263 n264 c265]) agt107 sz107 (T rfl rfl) s.1 rfl) ?_
     refine aw_load 2 (.agg #[.bool nr300, .slice A301 n302 c303]) rfl (by kernel_rfl) .none ⟨H375, H376, H377⟩ (fun _ s => dv_loads (l := [.bool nr300, .slice A301 n302 c303]) agt107 sz107 (T rfl rfl) s.2.1 rfl) ?_
     refine aw_load 4 (.agg #[.bool nr338, .slice A339 n340 c341]) rfl (by kernel_rfl) .none ⟨H375, H376, H377⟩ (fun _ s => dv_loads (l := [.bool nr338, .slice A339 n340 c341]) agt107 sz107 (T rfl rfl) s.2.2 rfl) ?_
     have h378 := (((((((((((((((h270.ext n277.ext).ext n283.ext).st s288 H286 (by decide)).st s293 H291 (by decide)).ext e311).ext n315.ext).ext n321.ext).st s326 H324 (by decide)).st s331 H329 (by decide)).ext e349).ext n353.ext).ext n359.ext).st s364 H362 (by decide)).st s369 H367 (by decide)).ext d373.ext)
     refine aw_one 1 rfl (by kernel_rfl) .none (oe_callf (vs := [.agg #[.bool nr262, .slice A263 n264 c265]]) co104 (ar1 (T rfl rfl)) (nsize_num h378 (by first | omega | (simp; done) | (simp; omega))) ?_)
     rintro _ w379 ⟨rfl, e380⟩
     have E381 := below_ext E374 E374.size e380
     have H382 := (e380.blk H375)
     have H383 := (e380.blk H376)
     have H384 := (e380.blk H377)
     refine ⟨.inr ⟨H382, H383, H384⟩, ?_⟩
     have h385 := (((((((((((h308.ext n315.ext).ext n321.ext).st s326 H324 (by decide)).st s331 H329 (by decide)).ext e349).ext n353.ext).ext n359.ext).st s364 H362 (by decide)).st s369 H367 (by decide)).ext d373.ext).ext e380)
     refine aw_one 3 rfl (by kernel_rfl) .none (oe_callf (vs := [.agg #[.bool nr300, .slice A301 n302 c303]]) co104 (ar1 (T rfl rfl)) (nsize_num h385 (by first | omega | (simp; done) | (simp; omega))) ?_)
     rintro _ w386 ⟨rfl, e387⟩
     have E388 := below_ext E381 E381.size e387
     have H389 := (e387.blk H382)
     have H390 := (e387.blk H383)
     have H391 := (e387.blk H384)
     refine ⟨.inr ⟨H389, H390, H391⟩, ?_⟩
     have h392 := (((((((h346.ext n353.ext).ext n359.ext).st s364 H362 (by decide)).st s369 H367 (by decide)).ext d373.ext).ext e380).ext e387)
     refine aw_one 5 rfl (by kernel_rfl) .none (oe_callf (vs := [.agg #[.bool nr338, .slice A339 n340 c341]]) co104 (ar1 (T rfl rfl)) (nsize_num h392 (by first | omega | (simp; done) | (simp; omega))) ?_)
     rintro _ w393 ⟨rfl, e394⟩
     have E395 := below_ext E388 E388.size e394
     have H396 := (e394.blk H389)
     have H397 := (e394.blk H390)
     have H398 := (e394.blk H391)
     refine ⟨.inr ⟨H396, H397, H398⟩, ?_⟩
     refine aw_pure 6 (.int .i64 (mx (mx ((nbits (x / (gI3 x y u)).natAbs : Int)) ((nbits (y / (gI3 x y u)).natAbs : Int))) ((nbits (u / (gI3 x y u)).natAbs : Int)))) rfl (by kernel_rfl) .none ⟨H396, H397, H398⟩ (fun _ => dv_max3 (a := (nbits (x / (gI3 x y u)).natAbs : Int)) (b := (nbits (y / (gI3 x y u)).natAbs : Int)) (c := (nbits (u / (gI3 x y u)).natAbs : Int)) (T rfl rfl) (T rfl rfl) (T rfl rfl)) ?_
     refine aw_pure 7 (.bool (decide (80 < (mx (mx ((nbits (x / (gI3 x y u)).natAbs : Int)) ((nbits (y / (gI3 x y u)).natAbs : Int))) ((nbits (u / (gI3 x y u)).natAbs : Int)))))) rfl (by kernel_rfl) .none ⟨H396, H397, H398⟩ (fun _ => dv_gtr (a := mx (mx ((nbits (x / (gI3 x y u)).natAbs : Int)) ((nbits (y / (gI3 x y u)).natAbs : Int))) ((nbits (u / (gI3 x y u)).natAbs : Int))) (b := 80) (T rfl rfl) C) ?_
     refine aw_done (by kernel_rfl) ?_
     by_cases hb399 : 80 < (mx (mx ((nbits (x / (gI3 x y u)).natAbs : Int)) ((nbits (y / (gI3 x y u)).natAbs : Int))) ((nbits (u / (gI3 x y u)).natAbs : Int)))
     · refine rk_ct (T rfl (congrArg Value.bool (decide_eq_true hb399))) ?_
       refine rk_seq ?_
       refine rk_reg ?_
       refine lw_v (.agg #[.int .u64 0, .int .u64 0, .int .u64 0, .int .u64 0, .int .u64 0, .int .u64 0, .int .u64 0, .int .u64 0, .int .u64 0, .int .u64 0, .int .u64 0, .int .u64 0]) (dv_build (pv := []) (l := [.int .u64 0, .int .u64 0, .int .u64 0, .int .u64 0, .int .u64 0, .int .u64 0, .int .u64 0, .int .u64 0, .int .u64 0, .int .u64 0, .int .u64 0, .int .u64 0]) zc40 pl40 trivial rfl) ?_
       have H400 := (e394.blk (e387.blk (e380.blk (d373.ext.blk (s369.blk (s364.blk (n359.ext.blk (n353.ext.blk (e349.blk (s331.blk (s326.blk (n321.ext.blk (n315.ext.blk (e311.blk (s293.blk (s288.blk (n283.ext.blk (n277.ext.blk (e273.blk (s47.blk (n42.ext.blk (e38.blk (n25.ext.blk H27))) (by omega))))) (by omega)) (by omega))))) (by omega)) (by omega))))) (by omega)) (by omega))))))
       refine lw_e (oe_store (v := .agg #[.int .u64 0, .int .u64 0, .int .u64 0, .int .u64 0, .int .u64 0, .int .u64 0, .int .u64 0, .int .u64 0, .int .u64 0, .int .u64 0, .int .u64 0, .int .u64 0]) (vs := [.int .u64 0, .int .u64 0, .int .u64 0, .int .u64 0, .int .u64 0, .int .u64 0, .int .u64 0, .int .u64 0, .int .u64 0, .int .u64 0, .int .u64 0, .int .u64 0]) (l := [.int .u64 0, .int .u64 0, .int .u64 0, .int .u64 0, .int .u64 0, .int .u64 0, .int .u64 0, .int .u64 0, .int .u64 0, .int .u64 0, .int .u64 0, .int .u64 0]) (T rfl rfl) (T rfl rfl) sz40 rfl rfl rfl H400 rfl ?_)
       intro w401 s402 H403
       have E404 := below_st E395 N9 s402
       refine lw_v (.bool false) (dv_assign C) ?_
       refine lw_nil ?_
       refine rk_ret Try.func93 (v := .tuple #[.agg #[.int .u64 0, .int .u64 0, .int .u64 0, .int .u64 0, .int .u64 0, .int .u64 0, .int .u64 0, .int .u64 0, .int .u64 0, .int .u64 0, .int .u64 0, .int .u64 0], .bool false]) (res2 Try.results93 (rv_cells (l := [.int .u64 0, .int .u64 0, .int .u64 0, .int .u64 0, .int .u64 0, .int .u64 0, .int .u64 0, .int .u64 0, .int .u64 0, .int .u64 0, .int .u64 0, .int .u64 0]) agt40 sz40 rfl rfl H403 rfl) (rv_tmp rfl rfl)) ⟨_, rfl, ?_⟩
       have ex : x / (gI3 x y u) = pPt x y u x := (pt_pos (fun hh => by have := hm.neg_iff.2 hh; simp_all))
       have ey : y / (gI3 x y u) = pPt x y u y := (pt_pos (fun hh => by have := hm.neg_iff.2 hh; simp_all))
       have eu : u / (gI3 x y u) = pPt x y u u := (pt_pos (fun hh => by have := hm.neg_iff.2 hh; simp_all))
       have h5 := mx3'.1 (by assumption)
       rw [ex, ey, eu] at h5
       have hS : ¬ pFit x y u := fun hh => h5 (sm3_iff.1 hh.2)
       exact ⟨(tu2 (ag12 (vi (wf3 hS)) (vi (wf2 hS)) (vi (wf1 hS)) (vi (wf0 hS)) (vi (wf3 hS)) (vi (wf2 hS)) (vi (wf1 hS)) (vi (wf0 hS)) (vi (wf3 hS)) (vi (wf2 hS)) (vi (wf1 hS)) (vi (wf0 hS))) (vf hS)), E404⟩
     · refine rk_cf (T rfl (congrArg Value.bool (decide_eq_false hb399))) ?_
       refine rk_skip ?_
       refine rk_seq ?_
       refine rk_reg ?_
       refine lw_v (.agg #[.int .u64 0, .int .u64 0, .int .u64 0, .int .u64 0, .int .u64 0, .int .u64 0, .int .u64 0, .int .u64 0, .int .u64 0, .int .u64 0, .int .u64 0, .int .u64 0]) (dv_build (pv := []) (l := [.int .u64 0, .int .u64 0, .int .u64 0, .int .u64 0, .int .u64 0, .int .u64 0, .int .u64 0, .int .u64 0, .int .u64 0, .int .u64 0, .int .u64 0, .int .u64 0]) zc40 pl40 trivial rfl) ?_
       refine lw_e (oe_alloc ze40 ?_)
       intro b405 w406 n407
       have N408 : w.heap.size ≤ b405 := n407.eq ▸ E395.size
       have H409 := (e394.blk (e387.blk (e380.blk (d373.ext.blk H370))))
       have : b357 < b405 := n407.eq ▸ lt_of_blk H409
       have E410 := below_ext E395 E395.size n407.ext
       refine lw_e (oe_store (v := .agg #[.int .u64 0, .int .u64 0, .int .u64 0, .int .u64 0, .int .u64 0, .int .u64 0, .int .u64 0, .int .u64 0, .int .u64 0, .int .u64 0, .int .u64 0, .int .u64 0]) (vs := [.int .u64 0, .int .u64 0, .int .u64 0, .int .u64 0, .int .u64 0, .int .u64 0, .int .u64 0, .int .u64 0, .int .u64 0, .int .u64 0, .int .u64 0, .int .u64 0]) (l := [.int .u64 0, .int .u64 0, .int .u64 0, .int .u64 0, .int .u64 0, .int .u64 0, .int .u64 0, .int .u64 0, .int .u64 0, .int .u64 0, .int .u64 0, .int .u64 0]) (T rfl rfl) (T rfl rfl) sz40 rfl rfl rfl n407.blk rfl ?_)
       intro w411 s412 H413
       have E414 := below_st E410 N408 s412
       refine lw_nil ?_
       refine rk_seq ?_
       refine rk_reg ?_
       have H415 := (s412.blk (n407.ext.blk H396) (by omega))
       refine lw_v (.agg #[.bool nr262, .slice A263 n264 c265]) (dv_loads (l := [.bool nr262, .slice A263 n264 c265]) agt107 sz107 (T rfl rfl) H415 rfl) ?_
       have h416 := (((((h378.ext e380).ext e387).ext e394).ext n407.ext).st s412 n407.blk (by decide))
       refine lw_e (oe_callf (vs := [.agg #[.bool nr262, .slice A263 n264 c265]]) co127 (ar1 (T rfl rfl)) (nwide_ok h416 (by first | decide | omega)) ?_)
       rintro _ w418 ⟨rfl, e419⟩
       have E420 := below_ext E414 E414.size e419
       have bw417 := w_rg (x / (gI3 x y u))
       refine lw_v (.tuple #[.agg #[.int .u64 (wv3 (x / (gI3 x y u))), .int .u64 (wv2 (x / (gI3 x y u))), .int .u64 (wv1 (x / (gI3 x y u))), .int .u64 (wv0 (x / (gI3 x y u)))], .bool (decide (fits (x / (gI3 x y u))))]) (dv_move (T rfl rfl)) ?_
       refine lw_v (.agg #[.int .u64 (wv3 (x / (gI3 x y u))), .int .u64 (wv2 (x / (gI3 x y u))), .int .u64 (wv1 (x / (gI3 x y u))), .int .u64 (wv0 (x / (gI3 x y u)))]) (dv_extract (vs := #[.agg #[.int .u64 (wv3 (x / (gI3 x y u))), .int .u64 (wv2 (x / (gI3 x y u))), .int .u64 (wv1 (x / (gI3 x y u))), .int .u64 (wv0 (x / (gI3 x y u)))], .bool (decide (fits (x / (gI3 x y u))))]) (T rfl rfl) rfl) ?_
       refine lw_v (.bool (decide (fits (x / (gI3 x y u))))) (dv_extract (vs := #[.agg #[.int .u64 (wv3 (x / (gI3 x y u))), .int .u64 (wv2 (x / (gI3 x y u))), .int .u64 (wv1 (x / (gI3 x y u))), .int .u64 (wv0 (x / (gI3 x y u)))], .bool (decide (fits (x / (gI3 x y u))))]) (T rfl rfl) rfl) ?_
       refine lw_v (.pointer (some ⟨b405, 0, none⟩)) (dv_fieldAddr (a := ⟨b405, 0, none⟩) (a' := ⟨b405, 0, none⟩) fo40_0 (T rfl rfl) rfl) ?_
       have H421 := (e419.blk H413)
       refine lw_e (oe_store (v := .agg #[.int .u64 (wv3 (x / (gI3 x y u))), .int .u64 (wv2 (x / (gI3 x y u))), .int .u64 (wv1 (x / (gI3 x y u))), .int .u64 (wv0 (x / (gI3 x y u)))]) (vs := [.int .u64 (wv3 (x / (gI3 x y u))), .int .u64 (wv2 (x / (gI3 x y u))), .int .u64 (wv1 (x / (gI3 x y u))), .int .u64 (wv0 (x / (gI3 x y u)))]) (l := [.int .u64 (wv3 (x / (gI3 x y u))), .int .u64 (wv2 (x / (gI3 x y u))), .int .u64 (wv1 (x / (gI3 x y u))), .int .u64 (wv0 (x / (gI3 x y u))), .int .u64 0, .int .u64 0, .int .u64 0, .int .u64 0, .int .u64 0, .int .u64 0, .int .u64 0, .int .u64 0]) (T rfl rfl) (T rfl rfl) sz38 rfl rfl rfl H421 rfl ?_)
       intro w422 s423 H424
       have E425 := below_st E420 N408 s423
       refine lw_nil ?_
       refine rk_seq ?_
       refine rk_reg ?_
       have H426 := (s423.blk (e419.blk (s412.blk (n407.ext.blk H397) (by omega))) (by omega))
       refine lw_v (.agg #[.bool nr300, .slice A301 n302 c303]) (dv_loads (l := [.bool nr300, .slice A301 n302 c303]) agt107 sz107 (T rfl rfl) H426 rfl) ?_
       have h427 := ((((((h385.ext e387).ext e394).ext n407.ext).st s412 n407.blk (by decide)).ext e419).st s423 H421 (by decide))
       refine lw_e (oe_callf (vs := [.agg #[.bool nr300, .slice A301 n302 c303]]) co127 (ar1 (T rfl rfl)) (nwide_ok h427 (by first | decide | omega)) ?_)
       rintro _ w429 ⟨rfl, e430⟩
       have E431 := below_ext E425 E425.size e430
       have bw428 := w_rg (y / (gI3 x y u))
       refine lw_v (.tuple #[.agg #[.int .u64 (wv3 (y / (gI3 x y u))), .int .u64 (wv2 (y / (gI3 x y u))), .int .u64 (wv1 (y / (gI3 x y u))), .int .u64 (wv0 (y / (gI3 x y u)))], .bool (decide (fits (y / (gI3 x y u))))]) (dv_move (T rfl rfl)) ?_
       refine lw_v (.agg #[.int .u64 (wv3 (y / (gI3 x y u))), .int .u64 (wv2 (y / (gI3 x y u))), .int .u64 (wv1 (y / (gI3 x y u))), .int .u64 (wv0 (y / (gI3 x y u)))]) (dv_extract (vs := #[.agg #[.int .u64 (wv3 (y / (gI3 x y u))), .int .u64 (wv2 (y / (gI3 x y u))), .int .u64 (wv1 (y / (gI3 x y u))), .int .u64 (wv0 (y / (gI3 x y u)))], .bool (decide (fits (y / (gI3 x y u))))]) (T rfl rfl) rfl) ?_
       refine lw_v (.bool (decide (fits (y / (gI3 x y u))))) (dv_extract (vs := #[.agg #[.int .u64 (wv3 (y / (gI3 x y u))), .int .u64 (wv2 (y / (gI3 x y u))), .int .u64 (wv1 (y / (gI3 x y u))), .int .u64 (wv0 (y / (gI3 x y u)))], .bool (decide (fits (y / (gI3 x y u))))]) (T rfl rfl) rfl) ?_
       refine lw_v (.pointer (some ⟨b405, 4, none⟩)) (dv_fieldAddr (a := ⟨b405, 0, none⟩) (a' := ⟨b405, 4, none⟩) fo40_1 (T rfl rfl) rfl) ?_
       have H432 := (e430.blk H424)
       refine lw_e (oe_store (v := .agg #[.int .u64 (wv3 (y / (gI3 x y u))), .int .u64 (wv2 (y / (gI3 x y u))), .int .u64 (wv1 (y / (gI3 x y u))), .int .u64 (wv0 (y / (gI3 x y u)))]) (vs := [.int .u64 (wv3 (y / (gI3 x y u))), .int .u64 (wv2 (y / (gI3 x y u))), .int .u64 (wv1 (y / (gI3 x y u))), .int .u64 (wv0 (y / (gI3 x y u)))]) (l := [.int .u64 (wv3 (x / (gI3 x y u))), .int .u64 (wv2 (x / (gI3 x y u))), .int .u64 (wv1 (x / (gI3 x y u))), .int .u64 (wv0 (x / (gI3 x y u))), .int .u64 (wv3 (y / (gI3 x y u))), .int .u64 (wv2 (y / (gI3 x y u))), .int .u64 (wv1 (y / (gI3 x y u))), .int .u64 (wv0 (y / (gI3 x y u))), .int .u64 0, .int .u64 0, .int .u64 0, .int .u64 0]) (T rfl rfl) (T rfl rfl) sz38 rfl rfl rfl H432 rfl ?_)
       intro w433 s434 H435
       have E436 := below_st E431 N408 s434
       refine lw_nil ?_
       refine rk_seq ?_
       refine rk_reg ?_
       have H437 := (s434.blk (e430.blk (s423.blk (e419.blk (s412.blk (n407.ext.blk H398) (by omega))) (by omega))) (by omega))
       refine lw_v (.agg #[.bool nr338, .slice A339 n340 c341]) (dv_loads (l := [.bool nr338, .slice A339 n340 c341]) agt107 sz107 (T rfl rfl) H437 rfl) ?_
       have h438 := (((((((h392.ext e394).ext n407.ext).st s412 n407.blk (by decide)).ext e419).st s423 H421 (by decide)).ext e430).st s434 H432 (by decide))
       refine lw_e (oe_callf (vs := [.agg #[.bool nr338, .slice A339 n340 c341]]) co127 (ar1 (T rfl rfl)) (nwide_ok h438 (by first | decide | omega)) ?_)
       rintro _ w440 ⟨rfl, e441⟩
       have E442 := below_ext E436 E436.size e441
       have bw439 := w_rg (u / (gI3 x y u))
       refine lw_v (.tuple #[.agg #[.int .u64 (wv3 (u / (gI3 x y u))), .int .u64 (wv2 (u / (gI3 x y u))), .int .u64 (wv1 (u / (gI3 x y u))), .int .u64 (wv0 (u / (gI3 x y u)))], .bool (decide (fits (u / (gI3 x y u))))]) (dv_move (T rfl rfl)) ?_
       refine lw_v (.agg #[.int .u64 (wv3 (u / (gI3 x y u))), .int .u64 (wv2 (u / (gI3 x y u))), .int .u64 (wv1 (u / (gI3 x y u))), .int .u64 (wv0 (u / (gI3 x y u)))]) (dv_extract (vs := #[.agg #[.int .u64 (wv3 (u / (gI3 x y u))), .int .u64 (wv2 (u / (gI3 x y u))), .int .u64 (wv1 (u / (gI3 x y u))), .int .u64 (wv0 (u / (gI3 x y u)))], .bool (decide (fits (u / (gI3 x y u))))]) (T rfl rfl) rfl) ?_
       refine lw_v (.bool (decide (fits (u / (gI3 x y u))))) (dv_extract (vs := #[.agg #[.int .u64 (wv3 (u / (gI3 x y u))), .int .u64 (wv2 (u / (gI3 x y u))), .int .u64 (wv1 (u / (gI3 x y u))), .int .u64 (wv0 (u / (gI3 x y u)))], .bool (decide (fits (u / (gI3 x y u))))]) (T rfl rfl) rfl) ?_
       refine lw_v (.pointer (some ⟨b405, 8, none⟩)) (dv_fieldAddr (a := ⟨b405, 0, none⟩) (a' := ⟨b405, 8, none⟩) fo40_2 (T rfl rfl) rfl) ?_
       have H443 := (e441.blk H435)
       refine lw_e (oe_store (v := .agg #[.int .u64 (wv3 (u / (gI3 x y u))), .int .u64 (wv2 (u / (gI3 x y u))), .int .u64 (wv1 (u / (gI3 x y u))), .int .u64 (wv0 (u / (gI3 x y u)))]) (vs := [.int .u64 (wv3 (u / (gI3 x y u))), .int .u64 (wv2 (u / (gI3 x y u))), .int .u64 (wv1 (u / (gI3 x y u))), .int .u64 (wv0 (u / (gI3 x y u)))]) (l := [.int .u64 (wv3 (x / (gI3 x y u))), .int .u64 (wv2 (x / (gI3 x y u))), .int .u64 (wv1 (x / (gI3 x y u))), .int .u64 (wv0 (x / (gI3 x y u))), .int .u64 (wv3 (y / (gI3 x y u))), .int .u64 (wv2 (y / (gI3 x y u))), .int .u64 (wv1 (y / (gI3 x y u))), .int .u64 (wv0 (y / (gI3 x y u))), .int .u64 (wv3 (u / (gI3 x y u))), .int .u64 (wv2 (u / (gI3 x y u))), .int .u64 (wv1 (u / (gI3 x y u))), .int .u64 (wv0 (u / (gI3 x y u)))]) (T rfl rfl) (T rfl rfl) sz38 rfl rfl rfl H443 rfl ?_)
       intro w444 s445 H446
       have E447 := below_st E442 N408 s445
       refine lw_nil ?_
       refine rk_seq ?_
       refine rk_reg ?_
       refine lw_v (.agg #[.int .u64 (wv3 (x / (gI3 x y u))), .int .u64 (wv2 (x / (gI3 x y u))), .int .u64 (wv1 (x / (gI3 x y u))), .int .u64 (wv0 (x / (gI3 x y u))), .int .u64 (wv3 (y / (gI3 x y u))), .int .u64 (wv2 (y / (gI3 x y u))), .int .u64 (wv1 (y / (gI3 x y u))), .int .u64 (wv0 (y / (gI3 x y u))), .int .u64 (wv3 (u / (gI3 x y u))), .int .u64 (wv2 (u / (gI3 x y u))), .int .u64 (wv1 (u / (gI3 x y u))), .int .u64 (wv0 (u / (gI3 x y u)))]) (dv_loads (l := [.int .u64 (wv3 (x / (gI3 x y u))), .int .u64 (wv2 (x / (gI3 x y u))), .int .u64 (wv1 (x / (gI3 x y u))), .int .u64 (wv0 (x / (gI3 x y u))), .int .u64 (wv3 (y / (gI3 x y u))), .int .u64 (wv2 (y / (gI3 x y u))), .int .u64 (wv1 (y / (gI3 x y u))), .int .u64 (wv0 (y / (gI3 x y u))), .int .u64 (wv3 (u / (gI3 x y u))), .int .u64 (wv2 (u / (gI3 x y u))), .int .u64 (wv1 (u / (gI3 x y u))), .int .u64 (wv0 (u / (gI3 x y u)))]) agt40 sz40 (T rfl rfl) H446 rfl) ?_
       have H448 := (s445.blk (e441.blk (s434.blk (e430.blk (s423.blk (e419.blk (s412.blk (n407.ext.blk (e394.blk (e387.blk (e380.blk (d373.ext.blk (s369.blk (s364.blk (n359.ext.blk (n353.ext.blk (e349.blk (s331.blk (s326.blk (n321.ext.blk (n315.ext.blk (e311.blk (s293.blk (s288.blk (n283.ext.blk (n277.ext.blk (e273.blk (s47.blk (n42.ext.blk (e38.blk (n25.ext.blk H27))) (by omega))))) (by omega)) (by omega))))) (by omega)) (by omega))))) (by omega)) (by omega))))))) (by omega))) (by omega))) (by omega))) (by omega))
       refine lw_e (oe_store (v := .agg #[.int .u64 (wv3 (x / (gI3 x y u))), .int .u64 (wv2 (x / (gI3 x y u))), .int .u64 (wv1 (x / (gI3 x y u))), .int .u64 (wv0 (x / (gI3 x y u))), .int .u64 (wv3 (y / (gI3 x y u))), .int .u64 (wv2 (y / (gI3 x y u))), .int .u64 (wv1 (y / (gI3 x y u))), .int .u64 (wv0 (y / (gI3 x y u))), .int .u64 (wv3 (u / (gI3 x y u))), .int .u64 (wv2 (u / (gI3 x y u))), .int .u64 (wv1 (u / (gI3 x y u))), .int .u64 (wv0 (u / (gI3 x y u)))]) (vs := [.int .u64 (wv3 (x / (gI3 x y u))), .int .u64 (wv2 (x / (gI3 x y u))), .int .u64 (wv1 (x / (gI3 x y u))), .int .u64 (wv0 (x / (gI3 x y u))), .int .u64 (wv3 (y / (gI3 x y u))), .int .u64 (wv2 (y / (gI3 x y u))), .int .u64 (wv1 (y / (gI3 x y u))), .int .u64 (wv0 (y / (gI3 x y u))), .int .u64 (wv3 (u / (gI3 x y u))), .int .u64 (wv2 (u / (gI3 x y u))), .int .u64 (wv1 (u / (gI3 x y u))), .int .u64 (wv0 (u / (gI3 x y u)))]) (l := [.int .u64 (wv3 (x / (gI3 x y u))), .int .u64 (wv2 (x / (gI3 x y u))), .int .u64 (wv1 (x / (gI3 x y u))), .int .u64 (wv0 (x / (gI3 x y u))), .int .u64 (wv3 (y / (gI3 x y u))), .int .u64 (wv2 (y / (gI3 x y u))), .int .u64 (wv1 (y / (gI3 x y u))), .int .u64 (wv0 (y / (gI3 x y u))), .int .u64 (wv3 (u / (gI3 x y u))), .int .u64 (wv2 (u / (gI3 x y u))), .int .u64 (wv1 (u / (gI3 x y u))), .int .u64 (wv0 (u / (gI3 x y u)))]) (T rfl rfl) (T rfl rfl) sz40 rfl rfl rfl H448 rfl ?_)
       intro w449 s450 H451
       have E452 := below_st E447 N9 s450
       refine lw_v (.bool true) (dv_assign C) ?_
       refine lw_nil ?_
       refine rk_ret Try.func93 (v := .tuple #[.agg #[.int .u64 (wv3 (x / (gI3 x y u))), .int .u64 (wv2 (x / (gI3 x y u))), .int .u64 (wv1 (x / (gI3 x y u))), .int .u64 (wv0 (x / (gI3 x y u))), .int .u64 (wv3 (y / (gI3 x y u))), .int .u64 (wv2 (y / (gI3 x y u))), .int .u64 (wv1 (y / (gI3 x y u))), .int .u64 (wv0 (y / (gI3 x y u))), .int .u64 (wv3 (u / (gI3 x y u))), .int .u64 (wv2 (u / (gI3 x y u))), .int .u64 (wv1 (u / (gI3 x y u))), .int .u64 (wv0 (u / (gI3 x y u)))], .bool true]) (res2 Try.results93 (rv_cells (l := [.int .u64 (wv3 (x / (gI3 x y u))), .int .u64 (wv2 (x / (gI3 x y u))), .int .u64 (wv1 (x / (gI3 x y u))), .int .u64 (wv0 (x / (gI3 x y u))), .int .u64 (wv3 (y / (gI3 x y u))), .int .u64 (wv2 (y / (gI3 x y u))), .int .u64 (wv1 (y / (gI3 x y u))), .int .u64 (wv0 (y / (gI3 x y u))), .int .u64 (wv3 (u / (gI3 x y u))), .int .u64 (wv2 (u / (gI3 x y u))), .int .u64 (wv1 (u / (gI3 x y u))), .int .u64 (wv0 (u / (gI3 x y u)))]) agt40 sz40 rfl rfl H451 rfl) (rv_tmp rfl rfl)) ⟨_, rfl, ?_⟩
       have ex : x / (gI3 x y u) = pPt x y u x := (pt_pos (fun hh => by have := hm.neg_iff.2 hh; simp_all))
       have ey : y / (gI3 x y u) = pPt x y u y := (pt_pos (fun hh => by have := hm.neg_iff.2 hh; simp_all))
       have eu : u / (gI3 x y u) = pPt x y u u := (pt_pos (fun hh => by have := hm.neg_iff.2 hh; simp_all))
       have h5 := mx3.1 (Int.not_lt.1 (by assumption))
       rw [ex, ey, eu] at h5
       have hS : pFit x y u := ⟨fun h0 => absurd (sgnI_zero.2 h0) (by assumption), sm3_iff.2 h5⟩
       exact ⟨(tu2 (ag12 (vi (by rw [pkz_t hS, ex])) (vi (by rw [pkz_t hS, ex])) (vi (by rw [pkz_t hS, ex])) (vi (by rw [pkz_t hS, ex])) (vi (by rw [pkz_t hS, ey])) (vi (by rw [pkz_t hS, ey])) (vi (by rw [pkz_t hS, ey])) (vi (by rw [pkz_t hS, ey])) (vi (by rw [pkz_t hS, eu])) (vi (by rw [pkz_t hS, eu])) (vi (by rw [pkz_t hS, eu])) (vi (by rw [pkz_t hS, eu]))) (vt hS)), E452⟩
end Go.Proofs.Ytmbpomcbdopgnaa.W
set_option linter.unusedVariables false
set_option linter.unusedSimpArgs false
namespace Go.Proofs.Ytmbpomcbdopgnaa.W
open Go Go.RowKit Go.Proofs.Ytmbpomcbdopgnaa.Fw
attribute [local irreducible] RunK LW AW DV OE Ct
theorem agt22 : aggB Try.prog 22 = some false := by kernel_rfl
theorem agt3 : aggB Try.prog 3 = some false := by kernel_rfl
theorem agt5 : aggB Try.prog 5 = some false := by kernel_rfl
theorem co123 : callOk Try.prog 123 = true := by kernel_rfl
theorem co124 : callOk Try.prog 124 = true := by kernel_rfl
theorem co42 : callOk Try.prog 42 = true := by kernel_rfl
theorem co47 : callOk Try.prog 47 = true := by kernel_rfl
theorem co81 : callOk Try.prog 81 = true := by kernel_rfl
theorem co82 : callOk Try.prog 82 = true := by kernel_rfl
theorem co83 : callOk Try.prog 83 = true := by kernel_rfl
theorem co84 : callOk Try.prog 84 = true := by kernel_rfl
theorem co85 : callOk Try.prog 85 = true := by kernel_rfl
theorem co86 : callOk Try.prog 86 = true := by kernel_rfl
theorem fo124_0 : fieldOffB Try.prog 124 0 = some 0 := by kernel_rfl
theorem fo124_1 : fieldOffB Try.prog 124 1 = some 1 := by kernel_rfl
theorem pl124 : placesB Try.prog 124 = some [(0, 1), (1, 1)] := by kernel_rfl
theorem pl25 : placesB Try.prog 25 = some [(0, 1), (1, 1)] := by kernel_rfl
theorem pl27 : placesB Try.prog 27 = some [(0, 2), (2, 2)] := by kernel_rfl
theorem sz3 : sizeB Try.prog 3 = some 1 := by kernel_rfl
theorem sz5 : sizeB Try.prog 5 = some 1 := by kernel_rfl
theorem ui5 : Try.prog.underlying 5 = some (.int .u8) := by kernel_rfl
theorem us22 : Try.prog.underlying 22 = some (.slice 5) := by kernel_rfl
theorem us50 : Try.prog.underlying 50 = some (.slice 2) := by kernel_rfl
theorem zc124 : zcB Try.prog 124 = some [.slice none 0 0, .int .i64 0] := by kernel_rfl
theorem zc2 : zcB Try.prog 2 = some [.int .i64 0] := by kernel_rfl
theorem zc25 : zcB Try.prog 25 = some [.int .i64 0, .int .i64 0] := by kernel_rfl
theorem zc27 : zcB Try.prog 27 = some [.int .i64 0, .int .i64 0, .int .i64 0, .int .i64 0] := by kernel_rfl
set_option maxHeartbeats 1000000 in
theorem segOf_ok {w : World} {ax ay bx b_y : Int}   : Ct Try.prog 47 [.agg #[.int .i64 ax, .int .i64 ay], .agg #[.int .i64 bx, .int .i64 b_y]] w fun v w1 => v = .agg #[.int .i64 (sq ax ay bx b_y ax bx), .int .i64 (sq ax ay bx b_y ay b_y), .int .i64 (sq ax ay bx b_y bx ax), .int .i64 (sq ax ay bx b_y b_y ay)] ∧ Ext w w1 := by
 refine ct_run (n := 15) Try.func47 rfl Try.ntmps47 rfl ?_
 have E0 : Below w.heap.size w w := Below.refl _ _
 refine rk_seq ?_
 refine rk_reg ?_
 refine lw_e (oe_box (v := .agg #[.int .i64 ax, .int .i64 ay]) (cs := #[.int .i64 ax, .int .i64 ay]) (T rfl rfl) rfl ?_)
 intro b1 w2 n3
 have N4 : w.heap.size ≤ b1 := n3.eq ▸ E0.size
 have E5 := below_ext E0 E0.size n3.ext
 refine lw_e (oe_box (v := .agg #[.int .i64 bx, .int .i64 b_y]) (cs := #[.int .i64 bx, .int .i64 b_y]) (T rfl rfl) rfl ?_)
 intro b6 w7 n8
 have N9 : w.heap.size ≤ b6 := n8.eq ▸ E5.size
 have : b1 < b6 := n8.eq ▸ lt_of_blk n3.blk
 have E10 := below_ext E5 E5.size n8.ext
 refine lw_e (oe_alloc ze27 ?_)
 intro b11 w12 n13
 have N14 : w.heap.size ≤ b11 := n13.eq ▸ E10.size
 have : b6 < b11 := n13.eq ▸ lt_of_blk n8.blk
 have E15 := below_ext E10 E10.size n13.ext
 refine lw_nil ?_
 refine rk_seq ?_
 refine rk_seq ?_
 refine rk_reg ?_
 have H16 := (n13.ext.blk (n8.ext.blk n3.blk))
 refine lw_v (.agg #[.int .i64 ax, .int .i64 ay]) (dv_loads (l := [.int .i64 ax, .int .i64 ay]) agt25 sz25 (T rfl rfl) H16 rfl) ?_
 have H17 := (n13.ext.blk n8.blk)
 refine lw_v (.agg #[.int .i64 bx, .int .i64 b_y]) (dv_loads (l := [.int .i64 bx, .int .i64 b_y]) agt25 sz25 (T rfl rfl) H17 rfl) ?_
 refine lw_e (oe_callf (vs := [.agg #[.int .i64 ax, .int .i64 ay], .agg #[.int .i64 bx, .int .i64 b_y]]) co45 (ar2 (T rfl rfl) (T rfl rfl)) (cmpSpots_ok (ax := ax) (ay := ay) (bx := bx) (b_y := b_y)  ) ?_)
 rintro _ w18 ⟨rfl, e19⟩
 have E20 := below_ext E15 E15.size e19
 refine lw_v (.bool (decide (0 < (cmpS ax ay bx b_y)))) (dv_gtr (a := cmpS ax ay bx b_y) (b := 0) (T rfl rfl) C) ?_
 refine lw_nil ?_
 by_cases hb21 : 0 < (cmpS ax ay bx b_y)
 · refine rk_ct (T rfl (congrArg Value.bool (decide_eq_true hb21))) ?_
   refine rk_seq ?_
   refine rk_reg ?_
   have H22 := (e19.blk H17)
   refine lw_v (.agg #[.int .i64 bx, .int .i64 b_y]) (dv_loads (l := [.int .i64 bx, .int .i64 b_y]) agt25 sz25 (T rfl rfl) H22 rfl) ?_
   have H23 := (e19.blk H16)
   refine lw_v (.agg #[.int .i64 ax, .int .i64 ay]) (dv_loads (l := [.int .i64 ax, .int .i64 ay]) agt25 sz25 (T rfl rfl) H23 rfl) ?_
   refine lw_v (.agg #[.int .i64 bx, .int .i64 b_y, .int .i64 ax, .int .i64 ay]) (dv_build (pv := [(0, .agg #[.int .i64 bx, .int .i64 b_y]), (1, .agg #[.int .i64 ax, .int .i64 ay])]) (l := [.int .i64 bx, .int .i64 b_y, .int .i64 ax, .int .i64 ay]) zc27 pl27 ⟨rfl, (T rfl rfl), ⟨rfl, (T rfl rfl), trivial⟩⟩ rfl) ?_
   have H24 := (e19.blk n13.blk)
   refine lw_e (oe_store (v := .agg #[.int .i64 bx, .int .i64 b_y, .int .i64 ax, .int .i64 ay]) (vs := [.int .i64 bx, .int .i64 b_y, .int .i64 ax, .int .i64 ay]) (l := [.int .i64 bx, .int .i64 b_y, .int .i64 ax, .int .i64 ay]) (T rfl rfl) (T rfl rfl) sz27 rfl rfl rfl H24 rfl ?_)
   intro w25 s26 H27
   have E28 := below_st E20 N14 s26
   refine lw_nil ?_
   refine rk_ret Try.func47 (v := .agg #[.int .i64 bx, .int .i64 b_y, .int .i64 ax, .int .i64 ay]) (res1 Try.results47 (rv_cells (l := [.int .i64 bx, .int .i64 b_y, .int .i64 ax, .int .i64 ay]) agt27 sz27 rfl rfl H27 rfl)) ⟨_, rfl, ?_⟩
   exact ⟨(by first | (rw [sq_t (by omega), sq_t (by omega), sq_t (by omega), sq_t (by omega)]; done) | (rw [sq_f (by omega), sq_f (by omega), sq_f (by omega), sq_f (by omega)]; done)), E28⟩
 · refine rk_cf (T rfl (congrArg Value.bool (decide_eq_false hb21))) ?_
   refine rk_skip ?_
   refine rk_seq ?_
   refine rk_reg ?_
   have H29 := (e19.blk H16)
   refine lw_v (.agg #[.int .i64 ax, .int .i64 ay]) (dv_loads (l := [.int .i64 ax, .int .i64 ay]) agt25 sz25 (T rfl rfl) H29 rfl) ?_
   have H30 := (e19.blk H17)
   refine lw_v (.agg #[.int .i64 bx, .int .i64 b_y]) (dv_loads (l := [.int .i64 bx, .int .i64 b_y]) agt25 sz25 (T rfl rfl) H30 rfl) ?_
   refine lw_v (.agg #[.int .i64 ax, .int .i64 ay, .int .i64 bx, .int .i64 b_y]) (dv_build (pv := [(0, .agg #[.int .i64 ax, .int .i64 ay]), (1, .agg #[.int .i64 bx, .int .i64 b_y])]) (l := [.int .i64 ax, .int .i64 ay, .int .i64 bx, .int .i64 b_y]) zc27 pl27 ⟨rfl, (T rfl rfl), ⟨rfl, (T rfl rfl), trivial⟩⟩ rfl) ?_
   have H31 := (e19.blk n13.blk)
   refine lw_e (oe_store (v := .agg #[.int .i64 ax, .int .i64 ay, .int .i64 bx, .int .i64 b_y]) (vs := [.int .i64 ax, .int .i64 ay, .int .i64 bx, .int .i64 b_y]) (l := [.int .i64 ax, .int .i64 ay, .int .i64 bx, .int .i64 b_y]) (T rfl rfl) (T rfl rfl) sz27 rfl rfl rfl H31 rfl ?_)
   intro w32 s33 H34
   have E35 := below_st E20 N14 s33
   refine lw_nil ?_
   refine rk_ret Try.func47 (v := .agg #[.int .i64 ax, .int .i64 ay, .int .i64 bx, .int .i64 b_y]) (res1 Try.results47 (rv_cells (l := [.int .i64 ax, .int .i64 ay, .int .i64 bx, .int .i64 b_y]) agt27 sz27 rfl rfl H34 rfl)) ⟨_, rfl, ?_⟩
   exact ⟨(by first | (rw [sq_t (by omega), sq_t (by omega), sq_t (by omega), sq_t (by omega)]; done) | (rw [sq_f (by omega), sq_f (by omega), sq_f (by omega), sq_f (by omega)]; done)), E35⟩
set_option maxHeartbeats 1000000 in
theorem iSegOf_ok {w : World} {ax ay bx b_y : Int}   : Ct Try.prog 13 [.agg #[.int .i64 ax, .int .i64 ay], .agg #[.int .i64 bx, .int .i64 b_y]] w fun v w1 => v = .tuple #[.agg #[.int .i64 (so0 ax ay bx b_y), .int .i64 (so1 ax ay bx b_y), .int .i64 (so2 ax ay bx b_y), .int .i64 (so3 ax ay bx b_y)], .bool (decide (soS ax ay bx b_y))] ∧ Ext w w1 := by
 refine ct_run (n := 23) Try.func13 rfl Try.ntmps13 rfl ?_
 have E0 : Below w.heap.size w w := Below.refl _ _
 refine rk_seq ?_
 refine rk_reg ?_
 refine lw_e (oe_box (v := .agg #[.int .i64 ax, .int .i64 ay]) (cs := #[.int .i64 ax, .int .i64 ay]) (T rfl rfl) rfl ?_)
 intro b1 w2 n3
 have N4 : w.heap.size ≤ b1 := n3.eq ▸ E0.size
 have E5 := below_ext E0 E0.size n3.ext
 refine lw_e (oe_box (v := .agg #[.int .i64 bx, .int .i64 b_y]) (cs := #[.int .i64 bx, .int .i64 b_y]) (T rfl rfl) rfl ?_)
 intro b6 w7 n8
 have N9 : w.heap.size ≤ b6 := n8.eq ▸ E5.size
 have : b1 < b6 := n8.eq ▸ lt_of_blk n3.blk
 have E10 := below_ext E5 E5.size n8.ext
 refine lw_e (oe_alloc ze27 ?_)
 intro b11 w12 n13
 have N14 : w.heap.size ≤ b11 := n13.eq ▸ E10.size
 have : b6 < b11 := n13.eq ▸ lt_of_blk n8.blk
 have E15 := below_ext E10 E10.size n13.ext
 refine lw_v (.bool false) (dv_assign C) ?_
 refine lw_nil ?_
 refine rk_seq ?_
 refine rk_seq ?_
 refine rk_reg ?_
 have H16 := (n13.ext.blk (n8.ext.blk n3.blk))
 refine lw_v (.agg #[.int .i64 ax, .int .i64 ay]) (dv_loads (l := [.int .i64 ax, .int .i64 ay]) agt25 sz25 (T rfl rfl) H16 rfl) ?_
 refine lw_e (oe_callf (vs := [.agg #[.int .i64 ax, .int .i64 ay]]) co12 (ar1 (T rfl rfl)) (iSpotOk_ok (x := ax) (y := ay)  ) ?_)
 rintro _ w17 ⟨rfl, e18⟩
 have E19 := below_ext E15 E15.size e18
 refine lw_v (.bool (decide (¬ (spotOk ax ay)))) (dv_notd (p := spotOk ax ay) (T rfl rfl)) ?_
 refine lw_v (.bool (decide (¬ (spotOk ax ay)))) (dv_move (T rfl rfl)) ?_
 by_cases hb20 : spotOk ax ay
 · have H21 := (e18.blk (n13.ext.blk n8.blk))
   refine lw_vy (.agg #[.int .i64 bx, .int .i64 b_y]) (d := 9) rfl rfl (congrArg Value.bool (decide_eq_false (not_not_intro hb20))) (dv_loads (l := [.int .i64 bx, .int .i64 b_y]) agt25 sz25 (T rfl rfl) H21 rfl) ?_
   refine lw_ey (d := 9) rfl rfl (congrArg Value.bool (decide_eq_false (not_not_intro hb20))) (oe_callf (vs := [.agg #[.int .i64 bx, .int .i64 b_y]]) co12 (ar1 (T rfl rfl)) (iSpotOk_ok (x := bx) (y := b_y)  ) ?_)
   rintro _ w22 ⟨rfl, e23⟩
   have E24 := below_ext E19 E19.size e23
   refine lw_vy (.bool (decide (¬ (spotOk bx b_y)))) (d := 9) rfl rfl (congrArg Value.bool (decide_eq_false (not_not_intro hb20))) (dv_notd (p := spotOk bx b_y) (T rfl rfl)) ?_
   refine lw_v (.bool (decide (¬ (spotOk bx b_y)))) (dv_pick_f (T rfl (congrArg Value.bool (decide_eq_false (not_not_intro hb20)))) (T rfl rfl)) ?_
   refine lw_v (.bool (decide (¬ (spotOk bx b_y)))) (dv_move (T rfl rfl)) ?_
   by_cases hb25 : spotOk bx b_y
   · have H26 := (e23.blk (e18.blk H16))
     refine lw_vy (.agg #[.int .i64 ax, .int .i64 ay]) (d := 14) rfl rfl (congrArg Value.bool (decide_eq_false (not_not_intro hb25))) (dv_loads (l := [.int .i64 ax, .int .i64 ay]) agt25 sz25 (T rfl rfl) H26 rfl) ?_
     have H27 := (e23.blk H21)
     refine lw_vy (.agg #[.int .i64 bx, .int .i64 b_y]) (d := 14) rfl rfl (congrArg Value.bool (decide_eq_false (not_not_intro hb25))) (dv_loads (l := [.int .i64 bx, .int .i64 b_y]) agt25 sz25 (T rfl rfl) H27 rfl) ?_
     refine lw_vy (.bool (decide (([ax, ay] : List Int) = [bx, b_y]))) (d := 14) rfl rfl (congrArg Value.bool (decide_eq_false (not_not_intro hb25))) (dv_eqls (k := .i64) (la := [ax, ay]) (lb := [bx, b_y]) fl25 eg25 (T rfl rfl) (T rfl rfl) rfl rfl) ?_
     refine lw_v (.bool (decide (([ax, ay] : List Int) = [bx, b_y]))) (dv_pick_f (T rfl (congrArg Value.bool (decide_eq_false (not_not_intro hb25)))) (T rfl rfl)) ?_
     refine lw_nil ?_
     by_cases hb28 : ([ax, ay] : List Int) = [bx, b_y]
     · refine rk_ct (T rfl (congrArg Value.bool (decide_eq_true hb28))) ?_
       refine rk_seq ?_
       refine rk_reg ?_
       refine lw_v (.agg #[.int .i64 0, .int .i64 0, .int .i64 0, .int .i64 0]) (dv_build (pv := []) (l := [.int .i64 0, .int .i64 0, .int .i64 0, .int .i64 0]) zc27 pl27 trivial rfl) ?_
       have H29 := (e23.blk (e18.blk n13.blk))
       refine lw_e (oe_store (v := .agg #[.int .i64 0, .int .i64 0, .int .i64 0, .int .i64 0]) (vs := [.int .i64 0, .int .i64 0, .int .i64 0, .int .i64 0]) (l := [.int .i64 0, .int .i64 0, .int .i64 0, .int .i64 0]) (T rfl rfl) (T rfl rfl) sz27 rfl rfl rfl H29 rfl ?_)
       intro w30 s31 H32
       have E33 := below_st E24 N14 s31
       refine lw_v (.bool false) (dv_assign C) ?_
       refine lw_nil ?_
       refine rk_ret Try.func13 (v := .tuple #[.agg #[.int .i64 0, .int .i64 0, .int .i64 0, .int .i64 0], .bool false]) (res2 Try.results13 (rv_cells (l := [.int .i64 0, .int .i64 0, .int .i64 0, .int .i64 0]) agt27 sz27 rfl rfl H32 rfl) (rv_tmp rfl rfl)) ⟨_, rfl, ?_⟩
       exact ⟨(by have hS : ¬ soS ax ay bx b_y := (fun hh => by first | exact absurd hh.1 (by assumption) | exact absurd hh.2.1 (by assumption) | exact hh.2.2 (by have h_ := ‹[ax, ay] = [bx, b_y]›; simpa using h_)); obtain ⟨q0, q1, q2, q3⟩ := so_no hS; rw [q0, q1, q2, q3]; exact tu2 rfl (vf hS)), E33⟩
     · refine rk_cf (T rfl (congrArg Value.bool (decide_eq_false hb28))) ?_
       refine rk_skip ?_
       refine rk_seq ?_
       refine rk_reg ?_
       refine lw_v (.agg #[.int .i64 ax, .int .i64 ay]) (dv_loads (l := [.int .i64 ax, .int .i64 ay]) agt25 sz25 (T rfl rfl) H26 rfl) ?_
       refine lw_v (.agg #[.int .i64 bx, .int .i64 b_y]) (dv_loads (l := [.int .i64 bx, .int .i64 b_y]) agt25 sz25 (T rfl rfl) H27 rfl) ?_
       refine lw_e (oe_callf (vs := [.agg #[.int .i64 ax, .int .i64 ay], .agg #[.int .i64 bx, .int .i64 b_y]]) co47 (ar2 (T rfl rfl) (T rfl rfl)) (segOf_ok (ax := ax) (ay := ay) (bx := bx) (b_y := b_y)  ) ?_)
       rintro _ w34 ⟨rfl, e35⟩
       have E36 := below_ext E24 E24.size e35
       have H37 := (e35.blk (e23.blk (e18.blk n13.blk)))
       refine lw_e (oe_store (v := .agg #[.int .i64 (sq ax ay bx b_y ax bx), .int .i64 (sq ax ay bx b_y ay b_y), .int .i64 (sq ax ay bx b_y bx ax), .int .i64 (sq ax ay bx b_y b_y ay)]) (vs := [.int .i64 (sq ax ay bx b_y ax bx), .int .i64 (sq ax ay bx b_y ay b_y), .int .i64 (sq ax ay bx b_y bx ax), .int .i64 (sq ax ay bx b_y b_y ay)]) (l := [.int .i64 (sq ax ay bx b_y ax bx), .int .i64 (sq ax ay bx b_y ay b_y), .int .i64 (sq ax ay bx b_y bx ax), .int .i64 (sq ax ay bx b_y b_y ay)]) (T rfl rfl) (T rfl rfl) sz27 rfl rfl rfl H37 rfl ?_)
       intro w38 s39 H40
       have E41 := below_st E36 N14 s39
       refine lw_v (.bool true) (dv_assign C) ?_
       refine lw_nil ?_
       refine rk_ret Try.func13 (v := .tuple #[.agg #[.int .i64 (sq ax ay bx b_y ax bx), .int .i64 (sq ax ay bx b_y ay b_y), .int .i64 (sq ax ay bx b_y bx ax), .int .i64 (sq ax ay bx b_y b_y ay)], .bool true]) (res2 Try.results13 (rv_cells (l := [.int .i64 (sq ax ay bx b_y ax bx), .int .i64 (sq ax ay bx b_y ay b_y), .int .i64 (sq ax ay bx b_y bx ax), .int .i64 (sq ax ay bx b_y b_y ay)]) agt27 sz27 rfl rfl H40 rfl) (rv_tmp rfl rfl)) ⟨_, rfl, ?_⟩
       exact ⟨(by have hS : soS ax ay bx b_y := ⟨(by assumption), (by assumption), (fun e_ => ‹¬ [ax, ay] = [bx, b_y]› (by rw [e_.1, e_.2]))⟩; obtain ⟨q0, q1, q2, q3⟩ := so_sq hS; rw [q0, q1, q2, q3]; exact tu2 rfl (vt hS)), E41⟩
   · refine lw_no (d := 14) rfl rfl (congrArg Value.bool (decide_eq_true hb25)) ?_
     refine lw_no (d := 14) rfl rfl (congrArg Value.bool (decide_eq_true hb25)) ?_
     refine lw_no (d := 14) rfl rfl (congrArg Value.bool (decide_eq_true hb25)) ?_
     refine lw_v (.bool true) (dv_pick_t (T rfl (congrArg Value.bool (decide_eq_true hb25))) C) ?_
     refine lw_nil ?_
     refine rk_ct (T rfl rfl) ?_
     refine rk_seq ?_
     refine rk_reg ?_
     refine lw_v (.agg #[.int .i64 0, .int .i64 0, .int .i64 0, .int .i64 0]) (dv_build (pv := []) (l := [.int .i64 0, .int .i64 0, .int .i64 0, .int .i64 0]) zc27 pl27 trivial rfl) ?_
     have H42 := (e23.blk (e18.blk n13.blk))
     refine lw_e (oe_store (v := .agg #[.int .i64 0, .int .i64 0, .int .i64 0, .int .i64 0]) (vs := [.int .i64 0, .int .i64 0, .int .i64 0, .int .i64 0]) (l := [.int .i64 0, .int .i64 0, .int .i64 0, .int .i64 0]) (T rfl rfl) (T rfl rfl) sz27 rfl rfl rfl H42 rfl ?_)
     intro w43 s44 H45
     have E46 := below_st E24 N14 s44
     refine lw_v (.bool false) (dv_assign C) ?_
     refine lw_nil ?_
     refine rk_ret Try.func13 (v := .tuple #[.agg #[.int .i64 0, .int .i64 0, .int .i64 0, .int .i64 0], .bool false]) (res2 Try.results13 (rv_cells (l := [.int .i64 0, .int .i64 0, .int .i64 0, .int .i64 0]) agt27 sz27 rfl rfl H45 rfl) (rv_tmp rfl rfl)) ⟨_, rfl, ?_⟩
     exact ⟨(by have hS : ¬ soS ax ay bx b_y := (fun hh => by first | exact absurd hh.1 (by assumption) | exact absurd hh.2.1 (by assumption) | exact hh.2.2 (by have h_ := ‹[ax, ay] = [bx, b_y]›; simpa using h_)); obtain ⟨q0, q1, q2, q3⟩ := so_no hS; rw [q0, q1, q2, q3]; exact tu2 rfl (vf hS)), E46⟩
 · refine lw_no (d := 9) rfl rfl (congrArg Value.bool (decide_eq_true hb20)) ?_
   refine lw_no (d := 9) rfl rfl (congrArg Value.bool (decide_eq_true hb20)) ?_
   refine lw_no (d := 9) rfl rfl (congrArg Value.bool (decide_eq_true hb20)) ?_
   refine lw_v (.bool true) (dv_pick_t (T rfl (congrArg Value.bool (decide_eq_true hb20))) C) ?_
   refine lw_v (.bool true) (dv_move (T rfl rfl)) ?_
   refine lw_no (d := 14) rfl rfl (rfl) ?_
   refine lw_no (d := 14) rfl rfl (rfl) ?_
   refine lw_no (d := 14) rfl rfl (rfl) ?_
   refine lw_v (.bool true) (dv_pick_t (T rfl rfl) C) ?_
   refine lw_nil ?_
   refine rk_ct (T rfl rfl) ?_
   refine rk_seq ?_
   refine rk_reg ?_
   refine lw_v (.agg #[.int .i64 0, .int .i64 0, .int .i64 0, .int .i64 0]) (dv_build (pv := []) (l := [.int .i64 0, .int .i64 0, .int .i64 0, .int .i64 0]) zc27 pl27 trivial rfl) ?_
   have H47 := (e18.blk n13.blk)
   refine lw_e (oe_store (v := .agg #[.int .i64 0, .int .i64 0, .int .i64 0, .int .i64 0]) (vs := [.int .i64 0, .int .i64 0, .int .i64 0, .int .i64 0]) (l := [.int .i64 0, .int .i64 0, .int .i64 0, .int .i64 0]) (T rfl rfl) (T rfl rfl) sz27 rfl rfl rfl H47 rfl ?_)
   intro w48 s49 H50
   have E51 := below_st E19 N14 s49
   refine lw_v (.bool false) (dv_assign C) ?_
   refine lw_nil ?_
   refine rk_ret Try.func13 (v := .tuple #[.agg #[.int .i64 0, .int .i64 0, .int .i64 0, .int .i64 0], .bool false]) (res2 Try.results13 (rv_cells (l := [.int .i64 0, .int .i64 0, .int .i64 0, .int .i64 0]) agt27 sz27 rfl rfl H50 rfl) (rv_tmp rfl rfl)) ⟨_, rfl, ?_⟩
   exact ⟨(by have hS : ¬ soS ax ay bx b_y := (fun hh => by first | exact absurd hh.1 (by assumption) | exact absurd hh.2.1 (by assumption) | exact hh.2.2 (by have h_ := ‹[ax, ay] = [bx, b_y]›; simpa using h_)); obtain ⟨q0, q1, q2, q3⟩ := so_no hS; rw [q0, q1, q2, q3]; exact tu2 rfl (vf hS)), E51⟩
set_option maxHeartbeats 1000000 in
theorem sSegOf_ok {w : World} {ax ay bx b_y : Int}   : Ct Try.prog 83 [.agg #[.int .i64 ax, .int .i64 ay], .agg #[.int .i64 bx, .int .i64 b_y]] w fun v w1 => v = .tuple #[.agg #[.int .i64 (so0 ax ay bx b_y), .int .i64 (so1 ax ay bx b_y), .int .i64 (so2 ax ay bx b_y), .int .i64 (so3 ax ay bx b_y)], .bool (decide (soS ax ay bx b_y))] ∧ Ext w w1 := by
 refine ct_run (n := 20) Try.func83 rfl Try.ntmps83 rfl ?_
 have E0 : Below w.heap.size w w := Below.refl _ _
 refine rk_seq ?_
 refine rk_reg ?_
 refine lw_e (oe_box (v := .agg #[.int .i64 ax, .int .i64 ay]) (cs := #[.int .i64 ax, .int .i64 ay]) (T rfl rfl) rfl ?_)
 intro b1 w2 n3
 have N4 : w.heap.size ≤ b1 := n3.eq ▸ E0.size
 have E5 := below_ext E0 E0.size n3.ext
 refine lw_e (oe_box (v := .agg #[.int .i64 bx, .int .i64 b_y]) (cs := #[.int .i64 bx, .int .i64 b_y]) (T rfl rfl) rfl ?_)
 intro b6 w7 n8
 have N9 : w.heap.size ≤ b6 := n8.eq ▸ E5.size
 have : b1 < b6 := n8.eq ▸ lt_of_blk n3.blk
 have E10 := below_ext E5 E5.size n8.ext
 refine lw_e (oe_alloc ze27 ?_)
 intro b11 w12 n13
 have N14 : w.heap.size ≤ b11 := n13.eq ▸ E10.size
 have : b6 < b11 := n13.eq ▸ lt_of_blk n8.blk
 have E15 := below_ext E10 E10.size n13.ext
 refine lw_v (.bool false) (dv_assign C) ?_
 refine lw_nil ?_
 refine rk_seq ?_
 refine rk_seq ?_
 refine rk_reg ?_
 have H16 := (n13.ext.blk n8.blk)
 refine lw_v (.agg #[.int .i64 bx, .int .i64 b_y]) (dv_loads (l := [.int .i64 bx, .int .i64 b_y]) agt25 sz25 (T rfl rfl) H16 rfl) ?_
 have H17 := (n13.ext.blk (n8.ext.blk n3.blk))
 refine lw_v (.agg #[.int .i64 ax, .int .i64 ay]) (dv_loads (l := [.int .i64 ax, .int .i64 ay]) agt25 sz25 (T rfl rfl) H17 rfl) ?_
 refine lw_e (oe_callf (vs := [.agg #[.int .i64 bx, .int .i64 b_y], .agg #[.int .i64 ax, .int .i64 ay]]) co89 (ar2 (T rfl rfl) (T rfl rfl)) (l4Less_ok (ax := bx) (ay := b_y) (bx := ax) (b_y := ay)  ) ?_)
 rintro _ w18 ⟨rfl, e19⟩
 have E20 := below_ext E15 E15.size e19
 refine lw_nil ?_
 by_cases hb21 : spotLt bx b_y ax ay
 · refine rk_ct (T rfl (congrArg Value.bool (decide_eq_true hb21))) ?_
   refine rk_reg ?_
   have H22 := (e19.blk H16)
   refine lw_v (.agg #[.int .i64 bx, .int .i64 b_y]) (dv_loads (l := [.int .i64 bx, .int .i64 b_y]) agt25 sz25 (T rfl rfl) H22 rfl) ?_
   have H23 := (e19.blk H17)
   refine lw_v (.agg #[.int .i64 ax, .int .i64 ay]) (dv_loads (l := [.int .i64 ax, .int .i64 ay]) agt25 sz25 (T rfl rfl) H23 rfl) ?_
   refine lw_e (oe_store (v := .agg #[.int .i64 bx, .int .i64 b_y]) (vs := [.int .i64 bx, .int .i64 b_y]) (l := [.int .i64 bx, .int .i64 b_y]) (T rfl rfl) (T rfl rfl) sz25 rfl rfl rfl H23 rfl ?_)
   intro w24 s25 H26
   have E27 := below_st E20 N4 s25
   have H28 := (s25.blk H22 (by omega))
   refine lw_e (oe_store (v := .agg #[.int .i64 ax, .int .i64 ay]) (vs := [.int .i64 ax, .int .i64 ay]) (l := [.int .i64 ax, .int .i64 ay]) (T rfl rfl) (T rfl rfl) sz25 rfl rfl rfl H28 rfl ?_)
   intro w29 s30 H31
   have E32 := below_st E27 N9 s30
   refine lw_nil ?_
   refine rk_seq ?_
   refine rk_reg ?_
   have H33 := (s30.blk H26 (by omega))
   refine lw_v (.agg #[.int .i64 bx, .int .i64 b_y]) (dv_loads (l := [.int .i64 bx, .int .i64 b_y]) agt25 sz25 (T rfl rfl) H33 rfl) ?_
   refine lw_v (.agg #[.int .i64 ax, .int .i64 ay]) (dv_loads (l := [.int .i64 ax, .int .i64 ay]) agt25 sz25 (T rfl rfl) H31 rfl) ?_
   refine lw_v (.agg #[.int .i64 bx, .int .i64 b_y, .int .i64 ax, .int .i64 ay]) (dv_build (pv := [(0, .agg #[.int .i64 bx, .int .i64 b_y]), (1, .agg #[.int .i64 ax, .int .i64 ay])]) (l := [.int .i64 bx, .int .i64 b_y, .int .i64 ax, .int .i64 ay]) zc27 pl27 ⟨rfl, (T rfl rfl), ⟨rfl, (T rfl rfl), trivial⟩⟩ rfl) ?_
   refine lw_e (oe_alloc ze27 ?_)
   intro b34 w35 n36
   have N37 : w.heap.size ≤ b34 := n36.eq ▸ E32.size
   have H38 := (s30.blk (s25.blk (e19.blk n13.blk) (by omega)) (by omega))
   have : b11 < b34 := n36.eq ▸ lt_of_blk H38
   have E39 := below_ext E32 E32.size n36.ext
   refine lw_e (oe_store (v := .agg #[.int .i64 bx, .int .i64 b_y, .int .i64 ax, .int .i64 ay]) (vs := [.int .i64 bx, .int .i64 b_y, .int .i64 ax, .int .i64 ay]) (l := [.int .i64 bx, .int .i64 b_y, .int .i64 ax, .int .i64 ay]) (T rfl rfl) (T rfl rfl) sz27 rfl rfl rfl n36.blk rfl ?_)
   intro w40 s41 H42
   have E43 := below_st E39 N37 s41
   refine lw_nil ?_
   refine rk_seq ?_
   refine rk_seq ?_
   refine rk_reg ?_
   refine lw_v (.agg #[.int .i64 bx, .int .i64 b_y, .int .i64 ax, .int .i64 ay]) (dv_loads (l := [.int .i64 bx, .int .i64 b_y, .int .i64 ax, .int .i64 ay]) agt27 sz27 (T rfl rfl) H42 rfl) ?_
   refine lw_e (oe_callf (vs := [.agg #[.int .i64 bx, .int .i64 b_y, .int .i64 ax, .int .i64 ay]]) co42 (ar1 (T rfl rfl)) (sSegOk_ok (ax := bx) (ay := b_y) (bx := ax) (b_y := ay)  ) ?_)
   rintro _ w44 ⟨rfl, e45⟩
   have E46 := below_ext E43 E43.size e45
   refine lw_v (.bool (decide (¬ (segOk bx b_y ax ay)))) (dv_notd (p := segOk bx b_y ax ay) (T rfl rfl)) ?_
   refine lw_nil ?_
   by_cases hb47 : segOk bx b_y ax ay
   · refine rk_cf (T rfl (congrArg Value.bool (decide_eq_false (not_not_intro hb47)))) ?_
     refine rk_skip ?_
     refine rk_seq ?_
     refine rk_reg ?_
     have H48 := (e45.blk H42)
     refine lw_v (.agg #[.int .i64 bx, .int .i64 b_y, .int .i64 ax, .int .i64 ay]) (dv_loads (l := [.int .i64 bx, .int .i64 b_y, .int .i64 ax, .int .i64 ay]) agt27 sz27 (T rfl rfl) H48 rfl) ?_
     have H49 := (e45.blk (s41.blk (n36.ext.blk H38) (by omega)))
     refine lw_e (oe_store (v := .agg #[.int .i64 bx, .int .i64 b_y, .int .i64 ax, .int .i64 ay]) (vs := [.int .i64 bx, .int .i64 b_y, .int .i64 ax, .int .i64 ay]) (l := [.int .i64 bx, .int .i64 b_y, .int .i64 ax, .int .i64 ay]) (T rfl rfl) (T rfl rfl) sz27 rfl rfl rfl H49 rfl ?_)
     intro w50 s51 H52
     have E53 := below_st E46 N14 s51
     refine lw_v (.bool true) (dv_assign C) ?_
     refine lw_nil ?_
     refine rk_ret Try.func83 (v := .tuple #[.agg #[.int .i64 bx, .int .i64 b_y, .int .i64 ax, .int .i64 ay], .bool true]) (res2 Try.results83 (rv_cells (l := [.int .i64 bx, .int .i64 b_y, .int .i64 ax, .int .i64 ay]) agt27 sz27 rfl rfl H52 rfl) (rv_tmp rfl rfl)) ⟨_, rfl, ?_⟩
     exact ⟨(by first | (obtain ⟨hS, hl⟩ := so_sp1 (by assumption) (by assumption); obtain ⟨q0, q1, q2, q3⟩ := so_ge hS hl; rw [q0, q1, q2, q3]; exact tu2 rfl (vt hS)) | (obtain ⟨hS, hl⟩ := so_sp3 (by assumption) (by assumption); obtain ⟨q0, q1, q2, q3⟩ := so_lt hS hl; rw [q0, q1, q2, q3]; exact tu2 rfl (vt hS))), E53⟩
   · refine rk_ct (T rfl (congrArg Value.bool (decide_eq_true hb47))) ?_
     refine rk_seq ?_
     refine rk_reg ?_
     refine lw_v (.agg #[.int .i64 0, .int .i64 0, .int .i64 0, .int .i64 0]) (dv_build (pv := []) (l := [.int .i64 0, .int .i64 0, .int .i64 0, .int .i64 0]) zc27 pl27 trivial rfl) ?_
     have H54 := (e45.blk (s41.blk (n36.ext.blk H38) (by omega)))
     refine lw_e (oe_store (v := .agg #[.int .i64 0, .int .i64 0, .int .i64 0, .int .i64 0]) (vs := [.int .i64 0, .int .i64 0, .int .i64 0, .int .i64 0]) (l := [.int .i64 0, .int .i64 0, .int .i64 0, .int .i64 0]) (T rfl rfl) (T rfl rfl) sz27 rfl rfl rfl H54 rfl ?_)
     intro w55 s56 H57
     have E58 := below_st E46 N14 s56
     refine lw_v (.bool false) (dv_assign C) ?_
     refine lw_nil ?_
     refine rk_ret Try.func83 (v := .tuple #[.agg #[.int .i64 0, .int .i64 0, .int .i64 0, .int .i64 0], .bool false]) (res2 Try.results83 (rv_cells (l := [.int .i64 0, .int .i64 0, .int .i64 0, .int .i64 0]) agt27 sz27 rfl rfl H57 rfl) (rv_tmp rfl rfl)) ⟨_, rfl, ?_⟩
     exact ⟨(by have hS : ¬ soS ax ay bx b_y := (by first | exact so_sp2 (by assumption) (by assumption) | exact so_sp4 (by assumption) (by assumption)); obtain ⟨q0, q1, q2, q3⟩ := so_no hS; rw [q0, q1, q2, q3]; exact tu2 rfl (vf hS)), E58⟩
 · refine rk_cf (T rfl (congrArg Value.bool (decide_eq_false hb21))) ?_
   refine rk_skip ?_
   refine rk_seq ?_
   refine rk_reg ?_
   have H59 := (e19.blk H17)
   refine lw_v (.agg #[.int .i64 ax, .int .i64 ay]) (dv_loads (l := [.int .i64 ax, .int .i64 ay]) agt25 sz25 (T rfl rfl) H59 rfl) ?_
   have H60 := (e19.blk H16)
   refine lw_v (.agg #[.int .i64 bx, .int .i64 b_y]) (dv_loads (l := [.int .i64 bx, .int .i64 b_y]) agt25 sz25 (T rfl rfl) H60 rfl) ?_
   refine lw_v (.agg #[.int .i64 ax, .int .i64 ay, .int .i64 bx, .int .i64 b_y]) (dv_build (pv := [(0, .agg #[.int .i64 ax, .int .i64 ay]), (1, .agg #[.int .i64 bx, .int .i64 b_y])]) (l := [.int .i64 ax, .int .i64 ay, .int .i64 bx, .int .i64 b_y]) zc27 pl27 ⟨rfl, (T rfl rfl), ⟨rfl, (T rfl rfl), trivial⟩⟩ rfl) ?_
   refine lw_e (oe_alloc ze27 ?_)
   intro b61 w62 n63
   have N64 : w.heap.size ≤ b61 := n63.eq ▸ E20.size
   have H65 := (e19.blk n13.blk)
   have : b11 < b61 := n63.eq ▸ lt_of_blk H65
   have E66 := below_ext E20 E20.size n63.ext
   refine lw_e (oe_store (v := .agg #[.int .i64 ax, .int .i64 ay, .int .i64 bx, .int .i64 b_y]) (vs := [.int .i64 ax, .int .i64 ay, .int .i64 bx, .int .i64 b_y]) (l := [.int .i64 ax, .int .i64 ay, .int .i64 bx, .int .i64 b_y]) (T rfl rfl) (T rfl rfl) sz27 rfl rfl rfl n63.blk rfl ?_)
   intro w67 s68 H69
   have E70 := below_st E66 N64 s68
   refine lw_nil ?_
   refine rk_seq ?_
   refine rk_seq ?_
   refine rk_reg ?_
   refine lw_v (.agg #[.int .i64 ax, .int .i64 ay, .int .i64 bx, .int .i64 b_y]) (dv_loads (l := [.int .i64 ax, .int .i64 ay, .int .i64 bx, .int .i64 b_y]) agt27 sz27 (T rfl rfl) H69 rfl) ?_
   refine lw_e (oe_callf (vs := [.agg #[.int .i64 ax, .int .i64 ay, .int .i64 bx, .int .i64 b_y]]) co42 (ar1 (T rfl rfl)) (sSegOk_ok (ax := ax) (ay := ay) (bx := bx) (b_y := b_y)  ) ?_)
   rintro _ w71 ⟨rfl, e72⟩
   have E73 := below_ext E70 E70.size e72
   refine lw_v (.bool (decide (¬ (segOk ax ay bx b_y)))) (dv_notd (p := segOk ax ay bx b_y) (T rfl rfl)) ?_
   refine lw_nil ?_
   by_cases hb74 : segOk ax ay bx b_y
   · refine rk_cf (T rfl (congrArg Value.bool (decide_eq_false (not_not_intro hb74)))) ?_
     refine rk_skip ?_
     refine rk_seq ?_
     refine rk_reg ?_
     have H75 := (e72.blk H69)
     refine lw_v (.agg #[.int .i64 ax, .int .i64 ay, .int .i64 bx, .int .i64 b_y]) (dv_loads (l := [.int .i64 ax, .int .i64 ay, .int .i64 bx, .int .i64 b_y]) agt27 sz27 (T rfl rfl) H75 rfl) ?_
     have H76 := (e72.blk (s68.blk (n63.ext.blk H65) (by omega)))
     refine lw_e (oe_store (v := .agg #[.int .i64 ax, .int .i64 ay, .int .i64 bx, .int .i64 b_y]) (vs := [.int .i64 ax, .int .i64 ay, .int .i64 bx, .int .i64 b_y]) (l := [.int .i64 ax, .int .i64 ay, .int .i64 bx, .int .i64 b_y]) (T rfl rfl) (T rfl rfl) sz27 rfl rfl rfl H76 rfl ?_)
     intro w77 s78 H79
     have E80 := below_st E73 N14 s78
     refine lw_v (.bool true) (dv_assign C) ?_
     refine lw_nil ?_
     refine rk_ret Try.func83 (v := .tuple #[.agg #[.int .i64 ax, .int .i64 ay, .int .i64 bx, .int .i64 b_y], .bool true]) (res2 Try.results83 (rv_cells (l := [.int .i64 ax, .int .i64 ay, .int .i64 bx, .int .i64 b_y]) agt27 sz27 rfl rfl H79 rfl) (rv_tmp rfl rfl)) ⟨_, rfl, ?_⟩
     exact ⟨(by first | (obtain ⟨hS, hl⟩ := so_sp1 (by assumption) (by assumption); obtain ⟨q0, q1, q2, q3⟩ := so_ge hS hl; rw [q0, q1, q2, q3]; exact tu2 rfl (vt hS)) | (obtain ⟨hS, hl⟩ := so_sp3 (by assumption) (by assumption); obtain ⟨q0, q1, q2, q3⟩ := so_lt hS hl; rw [q0, q1, q2, q3]; exact tu2 rfl (vt hS))), E80⟩
   · refine rk_ct (T rfl (congrArg Value.bool (decide_eq_true hb74))) ?_
     refine rk_seq ?_
     refine rk_reg ?_
     refine lw_v (.agg #[.int .i64 0, .int .i64 0, .int .i64 0, .int .i64 0]) (dv_build (pv := []) (l := [.int .i64 0, .int .i64 0, .int .i64 0, .int .i64 0]) zc27 pl27 trivial rfl) ?_
     have H81 := (e72.blk (s68.blk (n63.ext.blk H65) (by omega)))
     refine lw_e (oe_store (v := .agg #[.int .i64 0, .int .i64 0, .int .i64 0, .int .i64 0]) (vs := [.int .i64 0, .int .i64 0, .int .i64 0, .int .i64 0]) (l := [.int .i64 0, .int .i64 0, .int .i64 0, .int .i64 0]) (T rfl rfl) (T rfl rfl) sz27 rfl rfl rfl H81 rfl ?_)
     intro w82 s83 H84
     have E85 := below_st E73 N14 s83
     refine lw_v (.bool false) (dv_assign C) ?_
     refine lw_nil ?_
     refine rk_ret Try.func83 (v := .tuple #[.agg #[.int .i64 0, .int .i64 0, .int .i64 0, .int .i64 0], .bool false]) (res2 Try.results83 (rv_cells (l := [.int .i64 0, .int .i64 0, .int .i64 0, .int .i64 0]) agt27 sz27 rfl rfl H84 rfl) (rv_tmp rfl rfl)) ⟨_, rfl, ?_⟩
     exact ⟨(by have hS : ¬ soS ax ay bx b_y := (by first | exact so_sp2 (by assumption) (by assumption) | exact so_sp4 (by assumption) (by assumption)); obtain ⟨q0, q1, q2, q3⟩ := so_no hS; rw [q0, q1, q2, q3]; exact tu2 rfl (vf hS)), E85⟩
set_option maxHeartbeats 1000000 in
theorem rnext_ok {w : World}  {br : Nat} {A : Option Addr} {l c : Nat} {xs : List Int} {p : Int} (hx : RdI w .u8 A xs) (hxl : xs.length = l) (hl : l ≤ 1048576) (ok : okW 256 xs) (hAb : xs = [] ∨ ∀ g o, A = some ⟨g, o, none⟩ → g ≠ br) (hB : w.heap[br]? = some (.cells #[.slice A l c, .int .i64 p] 124)) (hp : 0 ≤ p ∧ p ≤ l)  : Ct Try.prog 123 [.pointer (some ⟨br, 0, none⟩)] w fun v w1 => ∃ (z : Int) (p' : Int), v = .int .i64 z ∧ Bx br w w1 ∧ w1.heap[br]? = some (.cells #[.slice A l c, .int .i64 p'] 124) ∧ (0 ≤ p' ∧ p' ≤ l) ∧ 0 ≤ z ∧ z < 256 := by
 refine ct_run (n := 32) Try.func123 rfl Try.ntmps123 rfl ?_
 have E0 : Bx br w w := Bx.refl _ _
 obtain ⟨q, rfl⟩ : ∃ q : Nat, p = q := ⟨p.toNat, by omega⟩
 refine rk_seq ?_
 refine rk_reg ?_
 refine lw_v (.int .i64 0) (dv_assign C) ?_
 refine lw_nil ?_
 refine rk_seq ?_
 refine rk_seq ?_
 refine rk_any (fun w => w.heap[br]? = some (.cells #[.slice A l c, .int .i64 ((q : Int))] 124)) [] mo ?_
 intro w1 d2
 have E3 := bx_ext E0 d2.ext
 have H4 := (d2.ext.blk hB)
 refine aw_pure 0 (.pointer (some ⟨br, 0, none⟩)) rfl (by kernel_rfl) .none H4 (fun _ => dv_move (T rfl rfl)) ?_
 refine aw_pure 1 (.pointer (some ⟨br, 0, none⟩)) rfl (by kernel_rfl) .none H4 (fun _ => dv_nilCheck (T rfl rfl)) ?_
 refine aw_pure 2 (.pointer (some ⟨br, 1, none⟩)) rfl (by kernel_rfl) .none H4 (fun _ => dv_fieldAddr (a := ⟨br, 0, none⟩) (a' := ⟨br, 1, none⟩) fo124_1 (T rfl rfl) rfl) ?_
 refine aw_load 3 (.int .i64 ((q : Int))) rfl (by kernel_rfl) .none H4 (fun _ s => dv_load1 (b := br) (o := 1) agt3 (T rfl rfl) s rfl) ?_
 refine aw_pure 4 (.pointer (some ⟨br, 0, none⟩)) rfl (by kernel_rfl) .none H4 (fun _ => dv_move (T rfl rfl)) ?_
 refine aw_pure 5 (.pointer (some ⟨br, 0, none⟩)) rfl (by kernel_rfl) .none H4 (fun _ => dv_nilCheck (T rfl rfl)) ?_
 refine aw_pure 6 (.pointer (some ⟨br, 0, none⟩)) rfl (by kernel_rfl) .none H4 (fun _ => dv_fieldAddr (a := ⟨br, 0, none⟩) (a' := ⟨br, 0, none⟩) fo124_0 (T rfl rfl) rfl) ?_
 refine aw_load 7 (.slice A l c) rfl (by kernel_rfl) .none H4 (fun _ s => dv_load1 (b := br) (o := 0) agt22 (T rfl rfl) s rfl) ?_
 refine aw_pure 8 (.int .i64 ((l : Int))) rfl (by kernel_rfl) .none H4 (fun _ => dv_len (ad := A) (l := l) (c := c) us22 (T rfl rfl)) ?_
 refine aw_pure 9 (.bool (decide (((l : Int)) ≤ ((q : Int))))) rfl (by kernel_rfl) .none H4 (fun _ => dv_geq (a := (q : Int)) (b := (l : Int)) (T rfl rfl) (T rfl rfl)) ?_
 refine aw_done (by kernel_rfl) ?_
 by_cases hb5 : ((l : Int)) ≤ ((q : Int))
 · refine rk_ct (T rfl (congrArg Value.bool (decide_eq_true hb5))) ?_
   refine rk_seq ?_
   refine rk_reg ?_
   refine lw_v (.int .i64 0) (dv_assign C) ?_
   refine lw_nil ?_
   refine rk_ret Try.func123 (v := .int .i64 0) (res1 Try.results123 (rv_tmp rfl rfl)) ⟨_, rfl, ?_⟩
   exact ⟨0, (q : Int), rfl, E3, H4, (by omega), (by first | omega | exact okW.getD ok (by decide) _)⟩
 · refine rk_cf (T rfl (congrArg Value.bool (decide_eq_false hb5))) ?_
   refine rk_skip ?_
   refine rk_seq ?_
   refine rk_reg ?_
   refine lw_v (.pointer (some ⟨br, 0, none⟩)) (dv_move (T rfl rfl)) ?_
   refine lw_v (.pointer (some ⟨br, 0, none⟩)) (dv_nilCheck (T rfl rfl)) ?_
   refine lw_v (.pointer (some ⟨br, 1, none⟩)) (dv_fieldAddr (a := ⟨br, 0, none⟩) (a' := ⟨br, 1, none⟩) fo124_1 (T rfl rfl) rfl) ?_
   refine lw_v (.int .i64 ((q : Int))) (dv_load1 (b := br) (o := 1) agt3 (T rfl rfl) H4 rfl) ?_
   refine lw_v (.int .i64 (((q : Int)) + 1)) (dv_add (a := (q : Int)) (b := 1) (z := ((q : Int)) + 1) (T rfl rfl) C (wr_i64 (by omega) (by omega))) ?_
   refine lw_v (.pointer (some ⟨br, 0, none⟩)) (dv_nilCheck (T rfl rfl)) ?_
   refine lw_v (.pointer (some ⟨br, 1, none⟩)) (dv_fieldAddr (a := ⟨br, 0, none⟩) (a' := ⟨br, 1, none⟩) fo124_1 (T rfl rfl) rfl) ?_
   refine lw_e (oe_store (v := .int .i64 (((q : Int)) + 1)) (vs := [.int .i64 (((q : Int)) + 1)]) (l := [.slice A l c, .int .i64 (((q : Int)) + 1)]) (T rfl rfl) (T rfl rfl) sz3 rfl rfl rfl H4 rfl ?_)
   intro w6 s7 H8
   have E9 := bx_st E3 s7
   refine lw_nil ?_
   refine rk_seq ?_
   have h10 := hx.bx E9 hAb
   refine rk_any (fun w => w.heap[br]? = some (.cells #[.slice A l c, .int .i64 (((q : Int)) + 1)] 124) ∧ RdI w .u8 A xs) [12] mo ?_
   intro w11 d12
   have E13 := bx_ext E9 d12.ext
   have H14 := (d12.ext.blk H8)
   have h15 := (h10.ext d12.ext)
   refine aw_pure 0 (.pointer (some ⟨br, 0, none⟩)) rfl (by kernel_rfl) .none ⟨H14, h15⟩ (fun _ => dv_move (T rfl rfl)) ?_
   refine aw_pure 1 (.pointer (some ⟨br, 0, none⟩)) rfl (by kernel_rfl) .none ⟨H14, h15⟩ (fun _ => dv_nilCheck (T rfl rfl)) ?_
   refine aw_pure 2 (.pointer (some ⟨br, 0, none⟩)) rfl (by kernel_rfl) .none ⟨H14, h15⟩ (fun _ => dv_fieldAddr (a := ⟨br, 0, none⟩) (a' := ⟨br, 0, none⟩) fo124_0 (T rfl rfl) rfl) ?_
   refine aw_load 3 (.slice A l c) rfl (by kernel_rfl) .none ⟨H14, h15⟩ (fun _ s => dv_load1 (b := br) (o := 0) agt22 (T rfl rfl) s.1 rfl) ?_
   refine aw_pure 4 (.pointer (some ⟨br, 0, none⟩)) rfl (by kernel_rfl) .none ⟨H14, h15⟩ (fun _ => dv_move (T rfl rfl)) ?_
   refine aw_pure 5 (.pointer (some ⟨br, 0, none⟩)) rfl (by kernel_rfl) .none ⟨H14, h15⟩ (fun _ => dv_nilCheck (T rfl rfl)) ?_
   refine aw_pure 6 (.pointer (some ⟨br, 1, none⟩)) rfl (by kernel_rfl) .none ⟨H14, h15⟩ (fun _ => dv_fieldAddr (a := ⟨br, 0, none⟩) (a' := ⟨br, 1, none⟩) fo124_1 (T rfl rfl) rfl) ?_
   refine aw_load 7 (.int .i64 (((q : Int)) + 1)) rfl (by kernel_rfl) .none ⟨H14, h15⟩ (fun _ s => dv_load1 (b := br) (o := 1) agt3 (T rfl rfl) s.1 rfl) ?_
   refine aw_pure 8 (.int .i64 ((((q : Int)) + 1) - 1)) rfl (by kernel_rfl) .none ⟨H14, h15⟩ (fun _ => dv_sub (a := ((q : Int)) + 1) (b := 1) (z := (((q : Int)) + 1) - 1) (T rfl rfl) C (wr_i64 (by omega) (by omega))) ?_
   obtain ⟨g16, o17, rfl⟩ := RdI.at h15 (by first | omega | (simp; done) | (simp; omega))
   refine aw_pure 9 (.pointer (some ⟨g16, o17 + (((q) + 1) - 1), none⟩)) rfl (by kernel_rfl) .none ⟨H14, h15⟩ (fun _ => dv_indexW (g := g16) (o := o17) (l := l) (c := c) (i := (((q) + 1) - 1)) (j := (((q : Int)) + 1) - 1) us22 sz5 (T rfl rfl) (T rfl rfl) (by omega) (by first | omega | (simp; done) | (simp; omega))) ?_
   have := okW.getD ok (by decide) ((((q) + 1) - 1))
   refine aw_load 10 (.int .u8 (xs.getD ((((q) + 1) - 1)) 0)) rfl (by kernel_rfl) .none ⟨H14, h15⟩ (fun _ s => dv_load agt5 (T rfl rfl) (RdI.cell s.2 (by first | omega | (simp; done) | (simp; omega)))) ?_
   refine aw_pure 11 (.int .i64 (xs.getD ((((q) + 1) - 1)) 0)) rfl (by kernel_rfl) .none ⟨H14, h15⟩ (fun _ => dv_conv (a := xs.getD ((((q) + 1) - 1)) 0) (z := xs.getD ((((q) + 1) - 1)) 0) ui5 ui3 (T rfl rfl) (wr_i64 (by omega) (by omega))) ?_
   refine aw_last 12 (.int .i64 (xs.getD ((((q) + 1) - 1)) 0)) rfl (by kernel_rfl) .none (fun _ => dv_assign (T rfl rfl)) ?_
   refine aw_done (by kernel_rfl) ?_
   refine rk_ret Try.func123 (v := .int .i64 (xs.getD ((((q) + 1) - 1)) 0)) (res1 Try.results123 (rv_tmp rfl rfl)) ⟨_, rfl, ?_⟩
   exact ⟨xs.getD ((((q) + 1) - 1)) 0, ((q : Int)) + 1, rfl, E13, H14, (by omega), (by first | omega | exact okW.getD ok (by decide) _)⟩
set_option maxHeartbeats 1000000 in
theorem rbelow_ok {w : World} {n : Int} {br : Nat} {A : Option Addr} {l c : Nat} {xs : List Int} {p : Int} (hx : RdI w .u8 A xs) (hxl : xs.length = l) (hl : l ≤ 1048576) (ok : okW 256 xs) (hAb : xs = [] ∨ ∀ g o, A = some ⟨g, o, none⟩ → g ≠ br) (hB : w.heap[br]? = some (.cells #[.slice A l c, .int .i64 p] 124)) (hp : 0 ≤ p ∧ p ≤ l)  : Ct Try.prog 81 [.pointer (some ⟨br, 0, none⟩), .int .i64 n] w fun v w1 => ∃ (z : Int) (p' : Int), v = .int .i64 z ∧ Bx br w w1 ∧ w1.heap[br]? = some (.cells #[.slice A l c, .int .i64 p'] 124) ∧ (0 ≤ p' ∧ p' ≤ l) ∧ 0 ≤ z ∧ (z < n ∨ z ≤ 0) := by
 refine ct_run (n := 24) Try.func81 rfl Try.ntmps81 rfl ?_
 have E0 : Bx br w w := Bx.refl _ _
 refine rk_seq ?_
 refine rk_reg ?_
 refine lw_v (.int .i64 0) (dv_assign C) ?_
 refine lw_nil ?_
 refine rk_seq ?_
 refine rk_seq ?_
 refine rk_reg ?_
 refine lw_v (.int .i64 n) (dv_move (T rfl rfl)) ?_
 refine lw_v (.bool (decide (n ≤ 1))) (dv_leq (a := n) (b := 1) (T rfl rfl) C) ?_
 refine lw_nil ?_
 by_cases hb1 : n ≤ 1
 · refine rk_ct (T rfl (congrArg Value.bool (decide_eq_true hb1))) ?_
   refine rk_seq ?_
   refine rk_reg ?_
   refine lw_v (.int .i64 0) (dv_assign C) ?_
   refine lw_nil ?_
   refine rk_ret Try.func81 (v := .int .i64 0) (res1 Try.results81 (rv_tmp rfl rfl)) ⟨_, rfl, ?_⟩
   exact ⟨0, p, rfl, E0, hB, (by omega), (by omega)⟩
 · refine rk_cf (T rfl (congrArg Value.bool (decide_eq_false hb1))) ?_
   refine rk_skip ?_
   refine rk_seq ?_
   refine rk_seq ?_
   refine rk_reg ?_
   refine lw_v (.int .i64 n) (dv_move (T rfl rfl)) ?_
   refine lw_v (.bool (decide (n ≤ 256))) (dv_leq (a := n) (b := 256) (T rfl rfl) C) ?_
   refine lw_nil ?_
   by_cases hb2 : n ≤ 256
   · refine rk_ct (T rfl (congrArg Value.bool (decide_eq_true hb2))) ?_
     refine rk_seq ?_
     refine rk_reg ?_
     refine lw_v (.pointer (some ⟨br, 0, none⟩)) (dv_move (T rfl rfl)) ?_
     refine lw_e (oe_callf (vs := [.pointer (some ⟨br, 0, none⟩)]) co123 (ar1 (T rfl rfl)) (rnext_ok  hx (by first | omega | (simp; done) | (simp; omega)) (by first | omega | (simp; done) | (simp; omega)) ok hAb hB (by omega) ) ?_)
     rintro _ w9 ⟨zi3, p4, rfl, e10, H6, hp7, hz8⟩
     have E11 := E0.trans e10
     refine lw_v (.int .i64 n) (dv_move (T rfl rfl)) ?_
     have := Int.emod_nonneg zi3 (show n ≠ 0 by omega); have := Int.emod_lt_of_pos zi3 (show 0 < n by omega)
     refine lw_v (.int .i64 (zi3 % n)) (dv_rem (a := zi3) (b := n) (z := zi3 % n) (T rfl rfl) (T rfl rfl) (by omega) (rem_c (by omega) rfl)) ?_
     refine lw_v (.int .i64 (zi3 % n)) (dv_assign (T rfl rfl)) ?_
     refine lw_nil ?_
     refine rk_ret Try.func81 (v := .int .i64 (zi3 % n)) (res1 Try.results81 (rv_tmp rfl rfl)) ⟨_, rfl, ?_⟩
     exact ⟨zi3 % n, p4, rfl, E11, H6, (by omega), (by omega)⟩
   · refine rk_cf (T rfl (congrArg Value.bool (decide_eq_false hb2))) ?_
     refine rk_skip ?_
     refine rk_seq ?_
     refine rk_reg ?_
     refine lw_v (.pointer (some ⟨br, 0, none⟩)) (dv_move (T rfl rfl)) ?_
     refine lw_e (oe_callf (vs := [.pointer (some ⟨br, 0, none⟩)]) co123 (ar1 (T rfl rfl)) (rnext_ok  hx (by first | omega | (simp; done) | (simp; omega)) (by first | omega | (simp; done) | (simp; omega)) ok hAb hB (by omega) ) ?_)
     rintro _ w18 ⟨zi12, p13, rfl, e19, H15, hp16, hz17⟩
     have E20 := E0.trans e19
     refine lw_v (.int .i64 (zi12 * 256)) (dv_mul (a := zi12) (b := 256) (z := zi12 * 256) (T rfl rfl) C (wr_i64 (by omega) (by omega))) ?_
     refine lw_v (.int .i64 (zi12 * 256)) (dv_assign (T rfl rfl)) ?_
     refine lw_nil ?_
     refine rk_seq ?_
     refine rk_reg ?_
     refine lw_v (.int .i64 (zi12 * 256)) (dv_move (T rfl rfl)) ?_
     refine lw_v (.pointer (some ⟨br, 0, none⟩)) (dv_move (T rfl rfl)) ?_
     have h21 := hx.bx E20 hAb
     refine lw_e (oe_callf (vs := [.pointer (some ⟨br, 0, none⟩)]) co123 (ar1 (T rfl rfl)) (rnext_ok  h21 (by first | omega | (simp; done) | (simp; omega)) (by first | omega | (simp; done) | (simp; omega)) ok hAb H15 (by omega) ) ?_)
     rintro _ w28 ⟨zi22, p23, rfl, e29, H25, hp26, hz27⟩
     have E30 := E20.trans e29
     refine lw_v (.int .i64 ((zi12 * 256) + zi22)) (dv_add (a := zi12 * 256) (b := zi22) (z := (zi12 * 256) + zi22) (T rfl rfl) (T rfl rfl) (wr_i64 (by omega) (by omega))) ?_
     refine lw_v (.int .i64 ((zi12 * 256) + zi22)) (dv_assign (T rfl rfl)) ?_
     refine lw_nil ?_
     refine rk_seq ?_
     refine rk_reg ?_
     refine lw_v (.int .i64 ((zi12 * 256) + zi22)) (dv_move (T rfl rfl)) ?_
     refine lw_v (.int .i64 n) (dv_move (T rfl rfl)) ?_
     have := Int.emod_nonneg ((zi12 * 256) + zi22) (show n ≠ 0 by omega); have := Int.emod_lt_of_pos ((zi12 * 256) + zi22) (show 0 < n by omega)
     refine lw_v (.int .i64 (((zi12 * 256) + zi22) % n)) (dv_rem (a := (zi12 * 256) + zi22) (b := n) (z := ((zi12 * 256) + zi22) % n) (T rfl rfl) (T rfl rfl) (by omega) (rem_c (by omega) rfl)) ?_
     refine lw_v (.int .i64 (((zi12 * 256) + zi22) % n)) (dv_assign (T rfl rfl)) ?_
     refine lw_nil ?_
     refine rk_ret Try.func81 (v := .int .i64 (((zi12 * 256) + zi22) % n)) (res1 Try.results81 (rv_tmp rfl rfl)) ⟨_, rfl, ?_⟩
     exact ⟨((zi12 * 256) + zi22) % n, p23, rfl, E30, H25, (by omega), (by omega)⟩
set_option maxHeartbeats 1000000 in
theorem ronce_ok {w : World} {n : Int} {br : Nat} {A : Option Addr} {l c : Nat} {xs : List Int} {p : Int} (hx : RdI w .u8 A xs) (hxl : xs.length = l) (hl : l ≤ 1048576) (ok : okW 256 xs) (hAb : xs = [] ∨ ∀ g o, A = some ⟨g, o, none⟩ → g ≠ br) (hB : w.heap[br]? = some (.cells #[.slice A l c, .int .i64 p] 124)) (hp : 0 ≤ p ∧ p ≤ l) (hn : -1000000 ≤ n ∧ n ≤ 1000000) : Ct Try.prog 86 [.pointer (some ⟨br, 0, none⟩), .int .i64 n] w fun v w1 => ∃ (z : Bool) (p' : Int), v = .bool z ∧ Bx br w w1 ∧ w1.heap[br]? = some (.cells #[.slice A l c, .int .i64 p'] 124) ∧ (0 ≤ p' ∧ p' ≤ l) ∧ True := by
 refine ct_run (n := 11) Try.func86 rfl Try.ntmps86 rfl ?_
 have E0 : Bx br w w := Bx.refl _ _
 refine rk_seq ?_
 refine rk_reg ?_
 refine lw_v (.bool false) (dv_assign C) ?_
 refine lw_nil ?_
 refine rk_seq ?_
 refine rk_reg ?_
 refine lw_v (.pointer (some ⟨br, 0, none⟩)) (dv_move (T rfl rfl)) ?_
 refine lw_v (.int .i64 n) (dv_move (T rfl rfl)) ?_
 refine lw_e (oe_callf (vs := [.pointer (some ⟨br, 0, none⟩), .int .i64 n]) co81 (ar2 (T rfl rfl) (T rfl rfl)) (rbelow_ok (n := n) hx (by first | omega | (simp; done) | (simp; omega)) (by first | omega | (simp; done) | (simp; omega)) ok hAb hB (by omega) ) ?_)
 rintro _ w7 ⟨zi1, p2, rfl, e8, H4, hp5, hz6⟩
 have E9 := E0.trans e8
 refine lw_v (.int .i64 n) (dv_move (T rfl rfl)) ?_
 refine lw_v (.int .i64 (n - 1)) (dv_sub (a := n) (b := 1) (z := n - 1) (T rfl rfl) C (wr_i64 (by omega) (by omega))) ?_
 refine lw_v (.bool (decide (zi1 = (n - 1)))) (dv_eql (a := zi1) (b := n - 1) (T rfl rfl) (T rfl rfl)) ?_
 refine lw_v (.bool (decide (zi1 = (n - 1)))) (dv_assign (T rfl rfl)) ?_
 refine lw_nil ?_
 refine rk_ret Try.func86 (v := .bool (decide (zi1 = (n - 1)))) (res1 Try.results86 (rv_tmp rfl rfl)) ⟨_, rfl, ?_⟩
 exact ⟨decide (zi1 = (n - 1)), p2, rfl, E9, H4, (by omega), trivial⟩
set_option maxHeartbeats 1000000 in
theorem rword_ok {w : World}  {br : Nat} {A : Option Addr} {l c : Nat} {xs : List Int} {p : Int} (hx : RdI w .u8 A xs) (hxl : xs.length = l) (hl : l ≤ 1048576) (ok : okW 256 xs) (hAb : xs = [] ∨ ∀ g o, A = some ⟨g, o, none⟩ → g ≠ br) (hB : w.heap[br]? = some (.cells #[.slice A l c, .int .i64 p] 124)) (hp : 0 ≤ p ∧ p ≤ l)  : Ct Try.prog 124 [.pointer (some ⟨br, 0, none⟩)] w fun v w1 => ∃ (z : Int) (p' : Int), v = .int .u64 z ∧ Bx br w w1 ∧ w1.heap[br]? = some (.cells #[.slice A l c, .int .i64 p'] 124) ∧ (0 ≤ p' ∧ p' ≤ l) ∧ 0 ≤ z ∧ z < 18446744073709551616 := by
 refine ct_run (n := 16) Try.func124 rfl Try.ntmps124 rfl ?_
 have E0 : Bx br w w := Bx.refl _ _
 refine rk_seq ?_
 refine rk_reg ?_
 refine lw_v (.int .u64 0) (dv_assign C) ?_
 refine lw_nil ?_
 refine rk_seq ?_
 refine rk_reg ?_
 refine lw_v (.int .u64 0) (dv_assign C) ?_
 refine lw_nil ?_
 refine rk_seq ?_
 refine rk_seq ?_
 refine rk_reg ?_
 refine lw_v (.int .i64 0) (dv_assign C) ?_
 refine lw_nil ?_
 refine rk_block ?_
 refine rk_loop (fun dm_ fr wl => ∃ (i : Nat) (z p : Int), dm_ = 8 - i ∧ fr 0 = .pointer (some ⟨br, 0, none⟩) ∧ fr 2 = .int .u64 0 ∧ fr 3 = .int .u64 z ∧ fr 4 = .int .i64 ((i : Int)) ∧ Bx br w wl ∧ wl.heap[br]? = some (.cells #[.slice A l c, .int .i64 p] 124) ∧ (i ≤ 8) ∧ (0 ≤ z ∧ z < 18446744073709551616) ∧ (0 ≤ p ∧ p ≤ l)) (8 - 0) ⟨0, 0, p, rfl, rfl, rfl, rfl, (vi (by omega)), E0, hB, (Nat.zero_le _), (by decide), (by omega)⟩ ?_
 intro d5 fr4 w1 hI2 ih3
 obtain ⟨i, z, p, hd12, f6, f7, f8, f9, E10, H11, hi, hz, hp⟩ := hI2
 refine rk_seq ?_
 refine rk_seq ?_
 refine rk_reg ?_
 refine lw_v (.int .i64 ((i : Int))) (dv_move (T rfl f9)) ?_
 refine lw_v (.bool (decide (((i : Int)) < 8))) (dv_lss (a := (i : Int)) (b := 8) (T rfl rfl) C) ?_
 refine lw_nil ?_
 by_cases hb13 : ((i : Int)) < 8
 · refine rk_ct (T rfl (congrArg Value.bool (decide_eq_true hb13))) ?_
   refine rk_skip ?_
   refine rk_seq ?_
   refine rk_block ?_
   refine rk_reg ?_
   refine lw_v (.int .u64 z) (dv_move (T rfl f8)) ?_
   refine lw_v (.int .u64 ((z * 256) % 18446744073709551616)) (dv_shl (a := z) (b := 8) (z := (z * 256) % 18446744073709551616) (T rfl rfl) C (by decide) (shl_c (m := 256) (n := 8) (by decide) (wr_u64 _))) ?_
   refine lw_v (.pointer (some ⟨br, 0, none⟩)) (dv_move (T rfl f6)) ?_
   have h14 := hx.bx E10 hAb
   refine lw_e (oe_callf (vs := [.pointer (some ⟨br, 0, none⟩)]) co123 (ar1 (T rfl rfl)) (rnext_ok  h14 (by first | omega | (simp; done) | (simp; omega)) (by first | omega | (simp; done) | (simp; omega)) ok hAb H11 (by omega) ) ?_)
   rintro _ w21 ⟨zi15, p16, rfl, e22, H18, hp19, hz20⟩
   have E23 := E10.trans e22
   refine lw_v (.int .u64 ((zi15) % 18446744073709551616)) (dv_conv (a := zi15) (z := (zi15) % 18446744073709551616) ui3 ui36 (T rfl rfl) (wr_u64 _)) ?_
   refine lw_v (.int .u64 (bitV .u64 .or ((z * 256) % 18446744073709551616) ((zi15) % 18446744073709551616))) (dv_or (a := (z * 256) % 18446744073709551616) (b := (zi15) % 18446744073709551616) (z := bitV .u64 .or ((z * 256) % 18446744073709551616) ((zi15) % 18446744073709551616)) (T rfl rfl) (T rfl rfl) rfl) ?_
   refine lw_v (.int .u64 (bitV .u64 .or ((z * 256) % 18446744073709551616) ((zi15) % 18446744073709551616))) (dv_assign (T rfl rfl)) ?_
   refine lw_nil ?_
   refine rk_inBlock ?_
   refine rk_reg ?_
   refine lw_v (.int .i64 ((i : Int))) (dv_move (T rfl f9)) ?_
   refine lw_v (.int .i64 (((i : Int)) + 1)) (dv_add (a := (i : Int)) (b := 1) (z := ((i : Int)) + 1) (T rfl rfl) C (wr_i64 (by omega) (by omega))) ?_
   refine lw_v (.int .i64 (((i : Int)) + 1)) (dv_assign (T rfl rfl)) ?_
   refine lw_nil ?_
   have hzr : 0 ≤ bitV .u64 .or ((z * 256) % 18446744073709551616) ((zi15) % 18446744073709551616) ∧ bitV .u64 .or ((z * 256) % 18446744073709551616) ((zi15) % 18446744073709551616) < 18446744073709551616 := by first | omega | exact or_rg64 _ _
   exact ih3 (8 - ((i + 1))) _ _ (by rw [hd12]; omega) ⟨(i + 1), (bitV .u64 .or ((z * 256) % 18446744073709551616) ((zi15) % 18446744073709551616)), p16, rfl, f6, f7, rfl, (vi (by omega)), E23, H18, (by omega), hzr, (by omega)⟩
 · refine rk_cf (T rfl (congrArg Value.bool (decide_eq_false hb13))) ?_
   refine rk_exit rfl ?_
   refine rk_seq ?_
   refine rk_reg ?_
   refine lw_v (.int .u64 z) (dv_move (T rfl f8)) ?_
   refine lw_v (.int .u64 z) (dv_assign (T rfl rfl)) ?_
   refine lw_nil ?_
   refine rk_ret Try.func124 (v := .int .u64 z) (res1 Try.results124 (rv_tmp rfl rfl)) ⟨_, rfl, ?_⟩
   exact ⟨z, p, rfl, E10, H11, (by omega), (by first | omega | exact or_rg64 _ _)⟩
set_option maxHeartbeats 1000000 in
theorem rnear_ok {w : World} {lo hi : Int} {br : Nat} {A : Option Addr} {l c : Nat} {xs : List Int} {p : Int} (hx : RdI w .u8 A xs) (hxl : xs.length = l) (hl : l ≤ 1048576) (ok : okW 256 xs) (hAb : xs = [] ∨ ∀ g o, A = some ⟨g, o, none⟩ → g ≠ br) (hB : w.heap[br]? = some (.cells #[.slice A l c, .int .i64 p] 124)) (hp : 0 ≤ p ∧ p ≤ l) (hlo : -2000000000 ≤ lo ∧ lo ≤ 2000000000) (hhi : -2000000000 ≤ hi ∧ hi ≤ 2000000000) : Ct Try.prog 84 [.pointer (some ⟨br, 0, none⟩), .int .i64 lo, .int .i64 hi] w fun v w1 => ∃ (z : Int) (p' : Int), v = .int .i64 z ∧ Bx br w w1 ∧ w1.heap[br]? = some (.cells #[.slice A l c, .int .i64 p'] 124) ∧ (0 ≤ p' ∧ p' ≤ l) ∧ -2000000000 ≤ z ∧ z ≤ 2000000000 := by
 refine ct_run (n := 31) Try.func84 rfl Try.ntmps84 rfl ?_
 have E0 : Bx br w w := Bx.refl _ _
 refine rk_seq ?_
 refine rk_reg ?_
 refine lw_v (.int .i64 0) (dv_assign C) ?_
 refine lw_nil ?_
 refine rk_seq ?_
 refine rk_seq ?_
 refine rk_reg ?_
 refine lw_v (.pointer (some ⟨br, 0, none⟩)) (dv_move (T rfl rfl)) ?_
 refine lw_e (oe_callf (vs := [.pointer (some ⟨br, 0, none⟩), .int .i64 8]) co81 (ar2 (T rfl rfl) C) (rbelow_ok (n := 8) hx (by first | omega | (simp; done) | (simp; omega)) (by first | omega | (simp; done) | (simp; omega)) ok hAb hB (by omega) ) ?_)
 rintro _ w7 ⟨zi1, p2, rfl, e8, H4, hp5, hz6⟩
 have E9 := E0.trans e8
 refine lw_nil ?_
 refine rk_block ?_
 refine rk_seq ?_
 refine rk_reg ?_
 refine lw_v (.bool (decide (zi1 = 0))) (dv_eql (a := zi1) (b := 0) (T rfl rfl) C) ?_
 refine lw_v (.bool (decide (zi1 = 0))) (dv_assign (T rfl rfl)) ?_
 refine lw_nil ?_
 by_cases hb10 : zi1 = 0
 · refine rk_ct (T rfl (congrArg Value.bool (decide_eq_true hb10))) ?_
   refine rk_seq ?_
   refine rk_reg ?_
   refine lw_v (.int .i64 lo) (dv_move (T rfl rfl)) ?_
   refine lw_v (.int .i64 lo) (dv_assign (T rfl rfl)) ?_
   refine lw_nil ?_
   refine rk_ret Try.func84 (v := .int .i64 lo) (res1 Try.results84 (rv_tmp rfl rfl)) ⟨_, rfl, ?_⟩
   exact ⟨lo, p2, rfl, E9, H4, (by omega), (by omega)⟩
 · refine rk_cf (T rfl (congrArg Value.bool (decide_eq_false hb10))) ?_
   refine rk_seq ?_
   refine rk_reg ?_
   refine lw_v (.bool (decide (zi1 = 1))) (dv_eql (a := zi1) (b := 1) (T rfl rfl) C) ?_
   refine lw_v (.bool (decide (zi1 = 1))) (dv_assign (T rfl rfl)) ?_
   refine lw_nil ?_
   by_cases hb11 : zi1 = 1
   · refine rk_ct (T rfl (congrArg Value.bool (decide_eq_true hb11))) ?_
     refine rk_seq ?_
     refine rk_reg ?_
     refine lw_v (.int .i64 hi) (dv_move (T rfl rfl)) ?_
     refine lw_v (.int .i64 hi) (dv_assign (T rfl rfl)) ?_
     refine lw_nil ?_
     refine rk_ret Try.func84 (v := .int .i64 hi) (res1 Try.results84 (rv_tmp rfl rfl)) ⟨_, rfl, ?_⟩
     exact ⟨hi, p2, rfl, E9, H4, (by omega), (by omega)⟩
   · refine rk_cf (T rfl (congrArg Value.bool (decide_eq_false hb11))) ?_
     refine rk_skip ?_
     refine rk_inBlock ?_
     refine rk_seq ?_
     refine rk_seq ?_
     refine rk_reg ?_
     refine lw_v (.int .i64 hi) (dv_move (T rfl rfl)) ?_
     refine lw_v (.int .i64 lo) (dv_move (T rfl rfl)) ?_
     refine lw_v (.bool (decide (hi < lo))) (dv_lss (a := hi) (b := lo) (T rfl rfl) (T rfl rfl)) ?_
     refine lw_nil ?_
     by_cases hb12 : hi < lo
     · refine rk_ct (T rfl (congrArg Value.bool (decide_eq_true hb12))) ?_
       refine rk_seq ?_
       refine rk_reg ?_
       refine lw_v (.int .i64 lo) (dv_move (T rfl rfl)) ?_
       refine lw_v (.int .i64 lo) (dv_assign (T rfl rfl)) ?_
       refine lw_nil ?_
       refine rk_ret Try.func84 (v := .int .i64 lo) (res1 Try.results84 (rv_tmp rfl rfl)) ⟨_, rfl, ?_⟩
       exact ⟨lo, p2, rfl, E9, H4, (by omega), (by omega)⟩
     · refine rk_cf (T rfl (congrArg Value.bool (decide_eq_false hb12))) ?_
       refine rk_skip ?_
       refine rk_seq ?_
       refine rk_reg ?_
       refine lw_v (.int .i64 lo) (dv_move (T rfl rfl)) ?_
       refine lw_v (.pointer (some ⟨br, 0, none⟩)) (dv_move (T rfl rfl)) ?_
       have h13 := hx.bx E9 hAb
       refine lw_e (oe_callf (vs := [.pointer (some ⟨br, 0, none⟩)]) co124 (ar1 (T rfl rfl)) (rword_ok  h13 (by first | omega | (simp; done) | (simp; omega)) (by first | omega | (simp; done) | (simp; omega)) ok hAb H4 (by omega) ) ?_)
       rintro _ w20 ⟨zu14, p15, rfl, e21, H17, hp18, hz19⟩
       have E22 := E9.trans e21
       refine lw_v (.int .u64 (zu14 / 2)) (dv_shr (a := zu14) (b := 1) (z := zu14 / 2) (T rfl rfl) C (by decide) (shr_c (n := 1) (by omega) (by decide))) ?_
       refine lw_v (.int .i64 hi) (dv_move (T rfl rfl)) ?_
       refine lw_v (.int .i64 lo) (dv_move (T rfl rfl)) ?_
       refine lw_v (.int .i64 (hi - lo)) (dv_sub (a := hi) (b := lo) (z := hi - lo) (T rfl rfl) (T rfl rfl) (wr_i64 (by omega) (by omega))) ?_
       refine lw_v (.int .i64 ((hi - lo) + 1)) (dv_add (a := hi - lo) (b := 1) (z := (hi - lo) + 1) (T rfl rfl) C (wr_i64 (by omega) (by omega))) ?_
       refine lw_v (.int .u64 ((hi - lo) + 1)) (dv_conv (a := (hi - lo) + 1) (z := (hi - lo) + 1) ui2 ui36 (T rfl rfl) (wn_u64 (by omega) (by omega))) ?_
       have := Int.emod_nonneg (zu14 / 2) (show ((hi - lo) + 1) ≠ 0 by omega); have := Int.emod_lt_of_pos (zu14 / 2) (show 0 < ((hi - lo) + 1) by omega)
       refine lw_v (.int .u64 ((zu14 / 2) % ((hi - lo) + 1))) (dv_rem (a := zu14 / 2) (b := (hi - lo) + 1) (z := (zu14 / 2) % ((hi - lo) + 1)) (T rfl rfl) (T rfl rfl) (by omega) (rem_c (by omega) rfl)) ?_
       refine lw_v (.int .i64 ((zu14 / 2) % ((hi - lo) + 1))) (dv_conv (a := (zu14 / 2) % ((hi - lo) + 1)) (z := (zu14 / 2) % ((hi - lo) + 1)) ui36 ui2 (T rfl rfl) (wr_i64 (by omega) (by omega))) ?_
       refine lw_v (.int .i64 (lo + ((zu14 / 2) % ((hi - lo) + 1)))) (dv_add (a := lo) (b := (zu14 / 2) % ((hi - lo) + 1)) (z := lo + ((zu14 / 2) % ((hi - lo) + 1))) (T rfl rfl) (T rfl rfl) (wr_i64 (by omega) (by omega))) ?_
       refine lw_v (.int .i64 (lo + ((zu14 / 2) % ((hi - lo) + 1)))) (dv_assign (T rfl rfl)) ?_
       refine lw_nil ?_
       refine rk_ret Try.func84 (v := .int .i64 (lo + ((zu14 / 2) % ((hi - lo) + 1)))) (res1 Try.results84 (rv_tmp rfl rfl)) ⟨_, rfl, ?_⟩
       exact ⟨lo + ((zu14 / 2) % ((hi - lo) + 1)), p15, rfl, E22, H17, (by omega), (by omega)⟩
set_option maxHeartbeats 1000000 in
theorem roff_ok {w : World} {lo hi : Int} {br : Nat} {A : Option Addr} {l c : Nat} {xs : List Int} {p : Int} (hx : RdI w .u8 A xs) (hxl : xs.length = l) (hl : l ≤ 1048576) (ok : okW 256 xs) (hAb : xs = [] ∨ ∀ g o, A = some ⟨g, o, none⟩ → g ≠ br) (hB : w.heap[br]? = some (.cells #[.slice A l c, .int .i64 p] 124)) (hp : 0 ≤ p ∧ p ≤ l) (hlo : -2000000 ≤ lo ∧ lo ≤ 2000000) (hhi : -2000000 ≤ hi ∧ hi ≤ 2000000) : Ct Try.prog 82 [.pointer (some ⟨br, 0, none⟩), .int .i64 lo, .int .i64 hi] w fun v w1 => ∃ (z : Int) (p' : Int), v = .int .i64 z ∧ Bx br w w1 ∧ w1.heap[br]? = some (.cells #[.slice A l c, .int .i64 p'] 124) ∧ (0 ≤ p' ∧ p' ≤ l) ∧ -9223372036854775808 ≤ z ∧ z < 9223372036854775808 := by
 refine ct_run (n := 22) Try.func82 rfl Try.ntmps82 rfl ?_
 have E0 : Bx br w w := Bx.refl _ _
 refine rk_seq ?_
 refine rk_reg ?_
 refine lw_v (.int .i64 0) (dv_assign C) ?_
 refine lw_nil ?_
 refine rk_seq ?_
 refine rk_seq ?_
 refine rk_reg ?_
 refine lw_v (.pointer (some ⟨br, 0, none⟩)) (dv_move (T rfl rfl)) ?_
 refine lw_e (oe_callf (vs := [.pointer (some ⟨br, 0, none⟩), .int .i64 24]) co86 (ar2 (T rfl rfl) C) (ronce_ok (n := 24) hx (by first | omega | (simp; done) | (simp; omega)) (by first | omega | (simp; done) | (simp; omega)) ok hAb hB (by omega) (by omega)) ?_)
 rintro _ w7 ⟨zb1, p2, rfl, e8, H4, hp5, _⟩
 have E9 := E0.trans e8
 refine lw_nil ?_
 rcases Bool.eq_false_or_eq_true (zb1) with hb10 | hb10
 · refine rk_ct (T rfl (congrArg Value.bool hb10)) ?_
   refine rk_seq ?_
   refine rk_reg ?_
   refine lw_v (.int .i64 lo) (dv_move (T rfl rfl)) ?_
   refine lw_v (.int .i64 (lo - 1)) (dv_sub (a := lo) (b := 1) (z := lo - 1) (T rfl rfl) C (wr_i64 (by omega) (by omega))) ?_
   refine lw_v (.int .i64 hi) (dv_move (T rfl rfl)) ?_
   refine lw_v (.int .i64 (hi + 1)) (dv_add (a := hi) (b := 1) (z := hi + 1) (T rfl rfl) C (wr_i64 (by omega) (by omega))) ?_
   refine lw_e (oe_buildSlice (pv := [(0, .int .i64 (lo - 1)), (1, .int .i64 (hi + 1)), (2, .int .i64 (-9223372036854775808)), (3, .int .i64 9223372036854775807)]) (init := [.int .i64 0, .int .i64 0, .int .i64 0, .int .i64 0]) (l := [.int .i64 (lo - 1), .int .i64 (hi + 1), .int .i64 (-9223372036854775808), .int .i64 9223372036854775807]) us50 sz2 rfl rfl zc2 (by kernel_rfl) ⟨rfl, (T rfl rfl), ⟨rfl, (T rfl rfl), ⟨rfl, C, ⟨rfl, C, trivial⟩⟩⟩⟩ rfl ?_)
   intro b11 w12 n13
   have N14 : w.heap.size ≤ b11 := n13.eq ▸ E9.size
   have : br < b11 := n13.eq ▸ lt_of_blk H4
   have E15 := bx_ext E9 n13.ext
   refine lw_v (.pointer (some ⟨br, 0, none⟩)) (dv_move (T rfl rfl)) ?_
   have h16 := hx.bx E15 hAb
   have H17 := (n13.ext.blk H4)
   refine lw_e (oe_callf (vs := [.pointer (some ⟨br, 0, none⟩), .int .i64 4]) co81 (ar2 (T rfl rfl) C) (rbelow_ok (n := 4) h16 (by first | omega | (simp; done) | (simp; omega)) (by first | omega | (simp; done) | (simp; omega)) ok hAb H17 (by omega) ) ?_)
   rintro _ w24 ⟨zi18, p19, rfl, e25, H21, hp22, hz23⟩
   have E26 := E15.trans e25
   refine lw_v (.pointer (some ⟨b11, zi18.toNat, none⟩)) (dv_indexO (g := b11) (l := 4) (c := 4) (i := zi18.toNat) (j := zi18) us50 sz2 (T rfl rfl) (T rfl rfl) (by omega) (by first | omega | (simp; done) | (simp; omega))) ?_
   have := lit_rg (lo := -9223372036854775808) (hi := 9223372036854775807) (L := [lo - 1, hi + 1, (-9223372036854775808), 9223372036854775807]) (by first | decide | (simp; omega)) (by decide) zi18.toNat
   have H27 := (bx_blk e25 n13.blk (by omega))
   refine lw_v (.int .i64 (([lo - 1, hi + 1, (-9223372036854775808), 9223372036854775807]).getD zi18.toNat 0)) (dv_loadW (L := [lo - 1, hi + 1, (-9223372036854775808), 9223372036854775807]) (v := ([lo - 1, hi + 1, (-9223372036854775808), 9223372036854775807]).getD zi18.toNat 0) agt2 (T rfl rfl) H27 (by first | omega | (simp; done) | (simp; omega)) rfl) ?_
   refine lw_v (.int .i64 (([lo - 1, hi + 1, (-9223372036854775808), 9223372036854775807]).getD zi18.toNat 0)) (dv_assign (T rfl rfl)) ?_
   refine lw_nil ?_
   refine rk_ret Try.func82 (v := .int .i64 (([lo - 1, hi + 1, (-9223372036854775808), 9223372036854775807]).getD zi18.toNat 0)) (res1 Try.results82 (rv_tmp rfl rfl)) ⟨_, rfl, ?_⟩
   exact ⟨([lo - 1, hi + 1, (-9223372036854775808), 9223372036854775807]).getD zi18.toNat 0, p19, rfl, E26, H21, (by omega), (by omega)⟩
 · refine rk_cf (T rfl (congrArg Value.bool hb10)) ?_
   refine rk_skip ?_
   refine rk_seq ?_
   refine rk_reg ?_
   refine lw_v (.pointer (some ⟨br, 0, none⟩)) (dv_move (T rfl rfl)) ?_
   refine lw_v (.int .i64 lo) (dv_move (T rfl rfl)) ?_
   refine lw_v (.int .i64 hi) (dv_move (T rfl rfl)) ?_
   have h28 := hx.bx E9 hAb
   refine lw_e (oe_callf (vs := [.pointer (some ⟨br, 0, none⟩), .int .i64 lo, .int .i64 hi]) co84 (ar3 (T rfl rfl) (T rfl rfl) (T rfl rfl)) (rnear_ok (lo := lo) (hi := hi) h28 (by first | omega | (simp; done) | (simp; omega)) (by first | omega | (simp; done) | (simp; omega)) ok hAb H4 (by omega) (by omega) (by omega)) ?_)
   rintro _ w35 ⟨zi29, p30, rfl, e36, H32, hp33, hz34⟩
   have E37 := E9.trans e36
   refine lw_v (.int .i64 zi29) (dv_assign (T rfl rfl)) ?_
   refine lw_nil ?_
   refine rk_ret Try.func82 (v := .int .i64 zi29) (res1 Try.results82 (rv_tmp rfl rfl)) ⟨_, rfl, ?_⟩
   exact ⟨zi29, p30, rfl, E37, H32, (by omega), (by omega)⟩
set_option maxHeartbeats 1000000 in
theorem rspot_ok {w : World} {br : Nat} {A : Option Addr} {l c : Nat} {xs : List Int} {p : Int} (hx : RdI w .u8 A xs) (hxl : xs.length = l) (hl : l ≤ 1048576) (ok : okW 256 xs) (hAb : xs = [] ∨ ∀ g o, A = some ⟨g, o, none⟩ → g ≠ br) (hB : w.heap[br]? = some (.cells #[.slice A l c, .int .i64 p] 124)) (hp : 0 ≤ p ∧ p ≤ l) : Ct Try.prog 85 [.pointer (some ⟨br, 0, none⟩)] w fun v w1 => ∃ (z0_ : Int) (z1_ : Int) (p' : Int), v = .agg #[.int .i64 z0_, .int .i64 z1_] ∧ Bx br w w1 ∧ w1.heap[br]? = some (.cells #[.slice A l c, .int .i64 p'] 124) ∧ (0 ≤ p' ∧ p' ≤ l) ∧ (-2000000000 ≤ z0_ ∧ z0_ ≤ 2000000000) ∧ (-2000000000 ≤ z1_ ∧ z1_ ≤ 2000000000) := by
 refine ct_run (n := 8) Try.func85 rfl Try.ntmps85 rfl ?_
 have E0 : Bx br w w := Bx.refl _ _
 refine rk_seq ?_
 refine rk_reg ?_
 refine lw_e (oe_alloc ze25 ?_)
 intro b1 w2 n3
 have N4 : w.heap.size ≤ b1 := n3.eq ▸ E0.size
 have : br < b1 := n3.eq ▸ lt_of_blk hB
 have E5 := bx_ext E0 n3.ext
 refine lw_nil ?_
 refine rk_seq ?_
 refine rk_reg ?_
 refine lw_v (.pointer (some ⟨br, 0, none⟩)) (dv_move (T rfl rfl)) ?_
 have h6 := (hx.ext n3.ext)
 have H7 := (n3.ext.blk hB)
 refine lw_e (oe_callf (vs := [.pointer (some ⟨br, 0, none⟩), .int .i64 (-6), .int .i64 6]) co84 (ar3 (T rfl rfl) C C) (rnear_ok (lo := -6) (hi := 6) h6 (by first | omega | (simp; done) | (simp; omega)) (by first | omega | (simp; done) | (simp; omega)) ok hAb H7 (by omega) (by omega) (by omega)) ?_)
 rintro _ w14 ⟨zi8, p9, rfl, e15, H11, hp12, hz13⟩
 have E16 := E5.trans e15
 refine lw_v (.pointer (some ⟨br, 0, none⟩)) (dv_move (T rfl rfl)) ?_
 have h17 := hx.bx E16 hAb
 refine lw_e (oe_callf (vs := [.pointer (some ⟨br, 0, none⟩), .int .i64 (-6), .int .i64 6]) co84 (ar3 (T rfl rfl) C C) (rnear_ok (lo := -6) (hi := 6) h17 (by first | omega | (simp; done) | (simp; omega)) (by first | omega | (simp; done) | (simp; omega)) ok hAb H11 (by omega) (by omega) (by omega)) ?_)
 rintro _ w24 ⟨zi18, p19, rfl, e25, H21, hp22, hz23⟩
 have E26 := E16.trans e25
 refine lw_v (.agg #[.int .i64 zi8, .int .i64 zi18]) (dv_build (pv := [(0, .int .i64 zi8), (1, .int .i64 zi18)]) (l := [.int .i64 zi8, .int .i64 zi18]) zc25 pl25 ⟨rfl, (T rfl rfl), ⟨rfl, (T rfl rfl), trivial⟩⟩ rfl) ?_
 have H27 := (bx_blk e25 (bx_blk e15 n3.blk (by omega)) (by omega))
 refine lw_e (oe_store (v := .agg #[.int .i64 zi8, .int .i64 zi18]) (vs := [.int .i64 zi8, .int .i64 zi18]) (l := [.int .i64 zi8, .int .i64 zi18]) (T rfl rfl) (T rfl rfl) sz25 rfl rfl rfl H27 rfl ?_)
 intro w28 s29 H30
 have E31 := bx_stN E26 N4 s29
 refine lw_nil ?_
 refine rk_ret Try.func85 (v := .agg #[.int .i64 zi8, .int .i64 zi18]) (res1 Try.results85 (rv_cells (l := [.int .i64 zi8, .int .i64 zi18]) agt25 sz25 rfl rfl H30 rfl)) ⟨_, rfl, ?_⟩
 have H32 := (s29.blk H21 (by omega))
 exact ⟨zi8, zi18, p19, rfl, E31, H32, (by omega), (by first | omega | (unfold mn; split <;> omega) | (unfold mx; split <;> omega)), (by first | omega | (unfold mn; split <;> omega) | (unfold mx; split <;> omega))⟩
set_option maxHeartbeats 1000000 in
theorem rseg_ok {w : World} {br : Nat} {A : Option Addr} {l c : Nat} {xs : List Int} {p : Int} (hx : RdI w .u8 A xs) (hxl : xs.length = l) (hl : l ≤ 1048576) (ok : okW 256 xs) (hAb : xs = [] ∨ ∀ g o, A = some ⟨g, o, none⟩ → g ≠ br) (hB : w.heap[br]? = some (.cells #[.slice A l c, .int .i64 p] 124)) (hp : 0 ≤ p ∧ p ≤ l) : Ct Try.prog 38 [.pointer (some ⟨br, 0, none⟩)] w fun v w1 => ∃ (z0_ : Int) (z1_ : Int) (z2_ : Int) (z3_ : Int) (p' : Int), v = .agg #[.int .i64 z0_, .int .i64 z1_, .int .i64 z2_, .int .i64 z3_] ∧ Bx br w w1 ∧ w1.heap[br]? = some (.cells #[.slice A l c, .int .i64 p'] 124) ∧ (0 ≤ p' ∧ p' ≤ l) ∧ (-9223372036854775808 ≤ z0_ ∧ z0_ < 9223372036854775808) ∧ (-9223372036854775808 ≤ z1_ ∧ z1_ < 9223372036854775808) ∧ (-9223372036854775808 ≤ z2_ ∧ z2_ < 9223372036854775808) ∧ (-9223372036854775808 ≤ z3_ ∧ z3_ < 9223372036854775808) := by
 refine ct_run (n := 66) Try.func38 rfl Try.ntmps38 rfl ?_
 have E0 : Bx br w w := Bx.refl _ _
 refine rk_seq ?_
 refine rk_reg ?_
 refine lw_e (oe_alloc ze27 ?_)
 intro b1 w2 n3
 have N4 : w.heap.size ≤ b1 := n3.eq ▸ E0.size
 have : br < b1 := n3.eq ▸ lt_of_blk hB
 have E5 := bx_ext E0 n3.ext
 refine lw_nil ?_
 refine rk_seq ?_
 refine rk_seq ?_
 refine rk_reg ?_
 refine lw_v (.pointer (some ⟨br, 0, none⟩)) (dv_move (T rfl rfl)) ?_
 have h6 := (hx.ext n3.ext)
 have H7 := (n3.ext.blk hB)
 refine lw_e (oe_callf (vs := [.pointer (some ⟨br, 0, none⟩), .int .i64 20]) co81 (ar2 (T rfl rfl) C) (rbelow_ok (n := 20) h6 (by first | omega | (simp; done) | (simp; omega)) (by first | omega | (simp; done) | (simp; omega)) ok hAb H7 (by omega) ) ?_)
 rintro _ w14 ⟨zi8, p9, rfl, e15, H11, hp12, hz13⟩
 have E16 := E5.trans e15
 refine lw_nil ?_
 refine rk_block ?_
 refine rk_seq ?_
 refine rk_reg ?_
 refine lw_v (.bool (decide (zi8 = 0))) (dv_eql (a := zi8) (b := 0) (T rfl rfl) C) ?_
 refine lw_v (.bool (decide (zi8 = 0))) (dv_assign (T rfl rfl)) ?_
 refine lw_nil ?_
 by_cases hb17 : zi8 = 0
 · refine rk_ct (T rfl (congrArg Value.bool (decide_eq_true hb17))) ?_
   refine rk_seq ?_
   refine rk_reg ?_
   refine lw_v (.pointer (some ⟨br, 0, none⟩)) (dv_move (T rfl rfl)) ?_
   have h18 := hx.bx E16 hAb
   refine lw_e (oe_callf (vs := [.pointer (some ⟨br, 0, none⟩), .int .i64 (-1000000), .int .i64 1000000]) co82 (ar3 (T rfl rfl) C C) (roff_ok (lo := -1000000) (hi := 1000000) h18 (by first | omega | (simp; done) | (simp; omega)) (by first | omega | (simp; done) | (simp; omega)) ok hAb H11 (by omega) (by omega) (by omega)) ?_)
   rintro _ w25 ⟨zi19, p20, rfl, e26, H22, hp23, hz24⟩
   have E27 := E16.trans e26
   refine lw_v (.pointer (some ⟨br, 0, none⟩)) (dv_move (T rfl rfl)) ?_
   have h28 := hx.bx E27 hAb
   refine lw_e (oe_callf (vs := [.pointer (some ⟨br, 0, none⟩), .int .i64 (-1000000), .int .i64 1000000]) co82 (ar3 (T rfl rfl) C C) (roff_ok (lo := -1000000) (hi := 1000000) h28 (by first | omega | (simp; done) | (simp; omega)) (by first | omega | (simp; done) | (simp; omega)) ok hAb H22 (by omega) (by omega) (by omega)) ?_)
   rintro _ w35 ⟨zi29, p30, rfl, e36, H32, hp33, hz34⟩
   have E37 := E27.trans e36
   refine lw_v (.agg #[.int .i64 zi19, .int .i64 zi29]) (dv_build (pv := [(0, .int .i64 zi19), (1, .int .i64 zi29)]) (l := [.int .i64 zi19, .int .i64 zi29]) zc25 pl25 ⟨rfl, (T rfl rfl), ⟨rfl, (T rfl rfl), trivial⟩⟩ rfl) ?_
   refine lw_v (.pointer (some ⟨br, 0, none⟩)) (dv_move (T rfl rfl)) ?_
   have h38 := hx.bx E37 hAb
   refine lw_e (oe_callf (vs := [.pointer (some ⟨br, 0, none⟩), .int .i64 (-1000000), .int .i64 1000000]) co82 (ar3 (T rfl rfl) C C) (roff_ok (lo := -1000000) (hi := 1000000) h38 (by first | omega | (simp; done) | (simp; omega)) (by first | omega | (simp; done) | (simp; omega)) ok hAb H32 (by omega) (by omega) (by omega)) ?_)
   rintro _ w45 ⟨zi39, p40, rfl, e46, H42, hp43, hz44⟩
   have E47 := E37.trans e46
   refine lw_v (.pointer (some ⟨br, 0, none⟩)) (dv_move (T rfl rfl)) ?_
   have h48 := hx.bx E47 hAb
   refine lw_e (oe_callf (vs := [.pointer (some ⟨br, 0, none⟩), .int .i64 (-1000000), .int .i64 1000000]) co82 (ar3 (T rfl rfl) C C) (roff_ok (lo := -1000000) (hi := 1000000) h48 (by first | omega | (simp; done) | (simp; omega)) (by first | omega | (simp; done) | (simp; omega)) ok hAb H42 (by omega) (by omega) (by omega)) ?_)
   rintro _ w55 ⟨zi49, p50, rfl, e56, H52, hp53, hz54⟩
   have E57 := E47.trans e56
   refine lw_v (.agg #[.int .i64 zi39, .int .i64 zi49]) (dv_build (pv := [(0, .int .i64 zi39), (1, .int .i64 zi49)]) (l := [.int .i64 zi39, .int .i64 zi49]) zc25 pl25 ⟨rfl, (T rfl rfl), ⟨rfl, (T rfl rfl), trivial⟩⟩ rfl) ?_
   refine lw_v (.agg #[.int .i64 zi19, .int .i64 zi29, .int .i64 zi39, .int .i64 zi49]) (dv_build (pv := [(0, .agg #[.int .i64 zi19, .int .i64 zi29]), (1, .agg #[.int .i64 zi39, .int .i64 zi49])]) (l := [.int .i64 zi19, .int .i64 zi29, .int .i64 zi39, .int .i64 zi49]) zc27 pl27 ⟨rfl, (T rfl rfl), ⟨rfl, (T rfl rfl), trivial⟩⟩ rfl) ?_
   have H58 := (bx_blk e56 (bx_blk e46 (bx_blk e36 (bx_blk e26 (bx_blk e15 n3.blk (by omega)) (by omega)) (by omega)) (by omega)) (by omega))
   refine lw_e (oe_store (v := .agg #[.int .i64 zi19, .int .i64 zi29, .int .i64 zi39, .int .i64 zi49]) (vs := [.int .i64 zi19, .int .i64 zi29, .int .i64 zi39, .int .i64 zi49]) (l := [.int .i64 zi19, .int .i64 zi29, .int .i64 zi39, .int .i64 zi49]) (T rfl rfl) (T rfl rfl) sz27 rfl rfl rfl H58 rfl ?_)
   intro w59 s60 H61
   have E62 := bx_stN E57 N4 s60
   refine lw_nil ?_
   refine rk_ret Try.func38 (v := .agg #[.int .i64 zi19, .int .i64 zi29, .int .i64 zi39, .int .i64 zi49]) (res1 Try.results38 (rv_cells (l := [.int .i64 zi19, .int .i64 zi29, .int .i64 zi39, .int .i64 zi49]) agt27 sz27 rfl rfl H61 rfl)) ⟨_, rfl, ?_⟩
   have H63 := (s60.blk H52 (by omega))
   exact ⟨zi19, zi29, zi39, zi49, p50, rfl, E62, H63, (by omega), (by first | omega | (unfold mn; split <;> omega) | (unfold mx; split <;> omega)), (by first | omega | (unfold mn; split <;> omega) | (unfold mx; split <;> omega)), (by first | omega | (unfold mn; split <;> omega) | (unfold mx; split <;> omega)), (by first | omega | (unfold mn; split <;> omega) | (unfold mx; split <;> omega))⟩
 · refine rk_cf (T rfl (congrArg Value.bool (decide_eq_false hb17))) ?_
   refine rk_seq ?_
   refine rk_reg ?_
   refine lw_v (.bool (decide (zi8 = 1))) (dv_eql (a := zi8) (b := 1) (T rfl rfl) C) ?_
   refine lw_v (.bool (decide (zi8 = 1))) (dv_assign (T rfl rfl)) ?_
   refine lw_nil ?_
   by_cases hb64 : zi8 = 1
   · refine rk_ct (T rfl (congrArg Value.bool (decide_eq_true hb64))) ?_
     refine rk_seq ?_
     refine rk_reg ?_
     refine lw_v (.pointer (some ⟨br, 0, none⟩)) (dv_move (T rfl rfl)) ?_
     have h65 := hx.bx E16 hAb
     refine lw_e (oe_callf (vs := [.pointer (some ⟨br, 0, none⟩), .int .i64 (-1000000), .int .i64 1000000]) co84 (ar3 (T rfl rfl) C C) (rnear_ok (lo := -1000000) (hi := 1000000) h65 (by first | omega | (simp; done) | (simp; omega)) (by first | omega | (simp; done) | (simp; omega)) ok hAb H11 (by omega) (by omega) (by omega)) ?_)
     rintro _ w72 ⟨zi66, p67, rfl, e73, H69, hp70, hz71⟩
     have E74 := E16.trans e73
     refine lw_v (.pointer (some ⟨br, 0, none⟩)) (dv_move (T rfl rfl)) ?_
     have h75 := hx.bx E74 hAb
     refine lw_e (oe_callf (vs := [.pointer (some ⟨br, 0, none⟩), .int .i64 (-1000000), .int .i64 1000000]) co84 (ar3 (T rfl rfl) C C) (rnear_ok (lo := -1000000) (hi := 1000000) h75 (by first | omega | (simp; done) | (simp; omega)) (by first | omega | (simp; done) | (simp; omega)) ok hAb H69 (by omega) (by omega) (by omega)) ?_)
     rintro _ w82 ⟨zi76, p77, rfl, e83, H79, hp80, hz81⟩
     have E84 := E74.trans e83
     refine lw_v (.agg #[.int .i64 zi66, .int .i64 zi76]) (dv_build (pv := [(0, .int .i64 zi66), (1, .int .i64 zi76)]) (l := [.int .i64 zi66, .int .i64 zi76]) zc25 pl25 ⟨rfl, (T rfl rfl), ⟨rfl, (T rfl rfl), trivial⟩⟩ rfl) ?_
     refine lw_v (.pointer (some ⟨br, 0, none⟩)) (dv_move (T rfl rfl)) ?_
     have h85 := hx.bx E84 hAb
     refine lw_e (oe_callf (vs := [.pointer (some ⟨br, 0, none⟩), .int .i64 (-1000000), .int .i64 1000000]) co84 (ar3 (T rfl rfl) C C) (rnear_ok (lo := -1000000) (hi := 1000000) h85 (by first | omega | (simp; done) | (simp; omega)) (by first | omega | (simp; done) | (simp; omega)) ok hAb H79 (by omega) (by omega) (by omega)) ?_)
     rintro _ w92 ⟨zi86, p87, rfl, e93, H89, hp90, hz91⟩
     have E94 := E84.trans e93
     refine lw_v (.pointer (some ⟨br, 0, none⟩)) (dv_move (T rfl rfl)) ?_
     have h95 := hx.bx E94 hAb
     refine lw_e (oe_callf (vs := [.pointer (some ⟨br, 0, none⟩), .int .i64 (-1000000), .int .i64 1000000]) co84 (ar3 (T rfl rfl) C C) (rnear_ok (lo := -1000000) (hi := 1000000) h95 (by first | omega | (simp; done) | (simp; omega)) (by first | omega | (simp; done) | (simp; omega)) ok hAb H89 (by omega) (by omega) (by omega)) ?_)
     rintro _ w102 ⟨zi96, p97, rfl, e103, H99, hp100, hz101⟩
     have E104 := E94.trans e103
     refine lw_v (.agg #[.int .i64 zi86, .int .i64 zi96]) (dv_build (pv := [(0, .int .i64 zi86), (1, .int .i64 zi96)]) (l := [.int .i64 zi86, .int .i64 zi96]) zc25 pl25 ⟨rfl, (T rfl rfl), ⟨rfl, (T rfl rfl), trivial⟩⟩ rfl) ?_
     refine lw_e (oe_callf (vs := [.agg #[.int .i64 zi66, .int .i64 zi76], .agg #[.int .i64 zi86, .int .i64 zi96]]) co83 (ar2 (T rfl rfl) (T rfl rfl)) (sSegOf_ok (ax := zi66) (ay := zi76) (bx := zi86) (b_y := zi96)  ) ?_)
     rintro _ w105 ⟨rfl, e106⟩
     have E107 := bx_ext E104 e106
     have := so_rg zi66 zi76 zi86 zi96
     refine lw_v (.tuple #[.agg #[.int .i64 (so0 zi66 zi76 zi86 zi96), .int .i64 (so1 zi66 zi76 zi86 zi96), .int .i64 (so2 zi66 zi76 zi86 zi96), .int .i64 (so3 zi66 zi76 zi86 zi96)], .bool (decide (soS zi66 zi76 zi86 zi96))]) (dv_move (T rfl rfl)) ?_
     refine lw_v (.agg #[.int .i64 (so0 zi66 zi76 zi86 zi96), .int .i64 (so1 zi66 zi76 zi86 zi96), .int .i64 (so2 zi66 zi76 zi86 zi96), .int .i64 (so3 zi66 zi76 zi86 zi96)]) (dv_extract (vs := #[.agg #[.int .i64 (so0 zi66 zi76 zi86 zi96), .int .i64 (so1 zi66 zi76 zi86 zi96), .int .i64 (so2 zi66 zi76 zi86 zi96), .int .i64 (so3 zi66 zi76 zi86 zi96)], .bool (decide (soS zi66 zi76 zi86 zi96))]) (T rfl rfl) rfl) ?_
     refine lw_v (.bool (decide (soS zi66 zi76 zi86 zi96))) (dv_extract (vs := #[.agg #[.int .i64 (so0 zi66 zi76 zi86 zi96), .int .i64 (so1 zi66 zi76 zi86 zi96), .int .i64 (so2 zi66 zi76 zi86 zi96), .int .i64 (so3 zi66 zi76 zi86 zi96)], .bool (decide (soS zi66 zi76 zi86 zi96))]) (T rfl rfl) rfl) ?_
     refine lw_e (oe_alloc ze27 ?_)
     intro b108 w109 n110
     have N111 : w.heap.size ≤ b108 := n110.eq ▸ E107.size
     have H112 := (e106.blk (bx_blk e103 (bx_blk e93 (bx_blk e83 (bx_blk e73 (bx_blk e15 n3.blk (by omega)) (by omega)) (by omega)) (by omega)) (by omega)))
     have : b1 < b108 := n110.eq ▸ lt_of_blk H112
     have E113 := bx_ext E107 n110.ext
     refine lw_e (oe_store (v := .agg #[.int .i64 (so0 zi66 zi76 zi86 zi96), .int .i64 (so1 zi66 zi76 zi86 zi96), .int .i64 (so2 zi66 zi76 zi86 zi96), .int .i64 (so3 zi66 zi76 zi86 zi96)]) (vs := [.int .i64 (so0 zi66 zi76 zi86 zi96), .int .i64 (so1 zi66 zi76 zi86 zi96), .int .i64 (so2 zi66 zi76 zi86 zi96), .int .i64 (so3 zi66 zi76 zi86 zi96)]) (l := [.int .i64 (so0 zi66 zi76 zi86 zi96), .int .i64 (so1 zi66 zi76 zi86 zi96), .int .i64 (so2 zi66 zi76 zi86 zi96), .int .i64 (so3 zi66 zi76 zi86 zi96)]) (T rfl rfl) (T rfl rfl) sz27 rfl rfl rfl n110.blk rfl ?_)
     intro w114 s115 H116
     have E117 := bx_stN E113 N111 s115
     refine lw_v (.bool (decide (soS zi66 zi76 zi86 zi96))) (dv_assign (T rfl rfl)) ?_
     refine lw_nil ?_
     refine rk_seq ?_
     refine rk_reg ?_
     refine lw_v (.agg #[.int .i64 (so0 zi66 zi76 zi86 zi96), .int .i64 (so1 zi66 zi76 zi86 zi96), .int .i64 (so2 zi66 zi76 zi86 zi96), .int .i64 (so3 zi66 zi76 zi86 zi96)]) (dv_loads (l := [.int .i64 (so0 zi66 zi76 zi86 zi96), .int .i64 (so1 zi66 zi76 zi86 zi96), .int .i64 (so2 zi66 zi76 zi86 zi96), .int .i64 (so3 zi66 zi76 zi86 zi96)]) agt27 sz27 (T rfl rfl) H116 rfl) ?_
     have H118 := (s115.blk (n110.ext.blk H112) (by omega))
     refine lw_e (oe_store (v := .agg #[.int .i64 (so0 zi66 zi76 zi86 zi96), .int .i64 (so1 zi66 zi76 zi86 zi96), .int .i64 (so2 zi66 zi76 zi86 zi96), .int .i64 (so3 zi66 zi76 zi86 zi96)]) (vs := [.int .i64 (so0 zi66 zi76 zi86 zi96), .int .i64 (so1 zi66 zi76 zi86 zi96), .int .i64 (so2 zi66 zi76 zi86 zi96), .int .i64 (so3 zi66 zi76 zi86 zi96)]) (l := [.int .i64 (so0 zi66 zi76 zi86 zi96), .int .i64 (so1 zi66 zi76 zi86 zi96), .int .i64 (so2 zi66 zi76 zi86 zi96), .int .i64 (so3 zi66 zi76 zi86 zi96)]) (T rfl rfl) (T rfl rfl) sz27 rfl rfl rfl H118 rfl ?_)
     intro w119 s120 H121
     have E122 := bx_stN E117 N4 s120
     refine lw_nil ?_
     refine rk_ret Try.func38 (v := .agg #[.int .i64 (so0 zi66 zi76 zi86 zi96), .int .i64 (so1 zi66 zi76 zi86 zi96), .int .i64 (so2 zi66 zi76 zi86 zi96), .int .i64 (so3 zi66 zi76 zi86 zi96)]) (res1 Try.results38 (rv_cells (l := [.int .i64 (so0 zi66 zi76 zi86 zi96), .int .i64 (so1 zi66 zi76 zi86 zi96), .int .i64 (so2 zi66 zi76 zi86 zi96), .int .i64 (so3 zi66 zi76 zi86 zi96)]) agt27 sz27 rfl rfl H121 rfl)) ⟨_, rfl, ?_⟩
     have H123 := (s120.blk (s115.blk (n110.ext.blk (e106.blk H99)) (by omega)) (by omega))
     exact ⟨so0 zi66 zi76 zi86 zi96, so1 zi66 zi76 zi86 zi96, so2 zi66 zi76 zi86 zi96, so3 zi66 zi76 zi86 zi96, p97, rfl, E122, H123, (by omega), (by first | omega | (unfold mn; split <;> omega) | (unfold mx; split <;> omega)), (by first | omega | (unfold mn; split <;> omega) | (unfold mx; split <;> omega)), (by first | omega | (unfold mn; split <;> omega) | (unfold mx; split <;> omega)), (by first | omega | (unfold mn; split <;> omega) | (unfold mx; split <;> omega))⟩
   · refine rk_cf (T rfl (congrArg Value.bool (decide_eq_false hb64))) ?_
     refine rk_seq ?_
     refine rk_reg ?_
     refine lw_v (.bool (decide (zi8 = 2))) (dv_eql (a := zi8) (b := 2) (T rfl rfl) C) ?_
     refine lw_v (.bool (decide (zi8 = 2))) (dv_assign (T rfl rfl)) ?_
     refine lw_nil ?_
     by_cases hb124 : zi8 = 2
     · refine rk_ct (T rfl (congrArg Value.bool (decide_eq_true hb124))) ?_
       refine rk_seq ?_
       refine rk_reg ?_
       refine lw_v (.pointer (some ⟨br, 0, none⟩)) (dv_move (T rfl rfl)) ?_
       have h125 := hx.bx E16 hAb
       refine lw_e (oe_callf (vs := [.pointer (some ⟨br, 0, none⟩)]) co85 (ar1 (T rfl rfl)) (rspot_ok h125 (by first | omega | (simp; done) | (simp; omega)) (by first | omega | (simp; done) | (simp; omega)) ok hAb H11 (by omega)) ?_)
       rintro _ w133 ⟨zi126, zi127, p130, rfl, e134, H131, hp132, hz128, hz129⟩
       have E135 := E16.trans e134
       refine lw_v (.pointer (some ⟨br, 0, none⟩)) (dv_move (T rfl rfl)) ?_
       have h136 := hx.bx E135 hAb
       refine lw_e (oe_callf (vs := [.pointer (some ⟨br, 0, none⟩)]) co85 (ar1 (T rfl rfl)) (rspot_ok h136 (by first | omega | (simp; done) | (simp; omega)) (by first | omega | (simp; done) | (simp; omega)) ok hAb H131 (by omega)) ?_)
       rintro _ w144 ⟨zi137, zi138, p141, rfl, e145, H142, hp143, hz139, hz140⟩
       have E146 := E135.trans e145
       refine lw_v (.agg #[.int .i64 zi126, .int .i64 zi127, .int .i64 zi137, .int .i64 zi138]) (dv_build (pv := [(0, .agg #[.int .i64 zi126, .int .i64 zi127]), (1, .agg #[.int .i64 zi137, .int .i64 zi138])]) (l := [.int .i64 zi126, .int .i64 zi127, .int .i64 zi137, .int .i64 zi138]) zc27 pl27 ⟨rfl, (T rfl rfl), ⟨rfl, (T rfl rfl), trivial⟩⟩ rfl) ?_
       have H147 := (bx_blk e145 (bx_blk e134 (bx_blk e15 n3.blk (by omega)) (by omega)) (by omega))
       refine lw_e (oe_store (v := .agg #[.int .i64 zi126, .int .i64 zi127, .int .i64 zi137, .int .i64 zi138]) (vs := [.int .i64 zi126, .int .i64 zi127, .int .i64 zi137, .int .i64 zi138]) (l := [.int .i64 zi126, .int .i64 zi127, .int .i64 zi137, .int .i64 zi138]) (T rfl rfl) (T rfl rfl) sz27 rfl rfl rfl H147 rfl ?_)
       intro w148 s149 H150
       have E151 := bx_stN E146 N4 s149
       refine lw_nil ?_
       refine rk_ret Try.func38 (v := .agg #[.int .i64 zi126, .int .i64 zi127, .int .i64 zi137, .int .i64 zi138]) (res1 Try.results38 (rv_cells (l := [.int .i64 zi126, .int .i64 zi127, .int .i64 zi137, .int .i64 zi138]) agt27 sz27 rfl rfl H150 rfl)) ⟨_, rfl, ?_⟩
       have H152 := (s149.blk H142 (by omega))
       exact ⟨zi126, zi127, zi137, zi138, p141, rfl, E151, H152, (by omega), (by first | omega | (unfold mn; split <;> omega) | (unfold mx; split <;> omega)), (by first | omega | (unfold mn; split <;> omega) | (unfold mx; split <;> omega)), (by first | omega | (unfold mn; split <;> omega) | (unfold mx; split <;> omega)), (by first | omega | (unfold mn; split <;> omega) | (unfold mx; split <;> omega))⟩
     · refine rk_cf (T rfl (congrArg Value.bool (decide_eq_false hb124))) ?_
       refine rk_skip ?_
       refine rk_inBlock ?_
       refine rk_seq ?_
       refine rk_reg ?_
       refine lw_v (.pointer (some ⟨br, 0, none⟩)) (dv_move (T rfl rfl)) ?_
       have h153 := hx.bx E16 hAb
       refine lw_e (oe_callf (vs := [.pointer (some ⟨br, 0, none⟩)]) co85 (ar1 (T rfl rfl)) (rspot_ok h153 (by first | omega | (simp; done) | (simp; omega)) (by first | omega | (simp; done) | (simp; omega)) ok hAb H11 (by omega)) ?_)
       rintro _ w161 ⟨zi154, zi155, p158, rfl, e162, H159, hp160, hz156, hz157⟩
       have E163 := E16.trans e162
       refine lw_e (oe_alloc ze25 ?_)
       intro b164 w165 n166
       have N167 : w.heap.size ≤ b164 := n166.eq ▸ E163.size
       have H168 := (bx_blk e162 (bx_blk e15 n3.blk (by omega)) (by omega))
       have : b1 < b164 := n166.eq ▸ lt_of_blk H168
       have E169 := bx_ext E163 n166.ext
       refine lw_e (oe_store (v := .agg #[.int .i64 zi154, .int .i64 zi155]) (vs := [.int .i64 zi154, .int .i64 zi155]) (l := [.int .i64 zi154, .int .i64 zi155]) (T rfl rfl) (T rfl rfl) sz25 rfl rfl rfl n166.blk rfl ?_)
       intro w170 s171 H172
       have E173 := bx_stN E169 N167 s171
       refine lw_nil ?_
       refine rk_seq ?_
       refine rk_reg ?_
       refine lw_v (.pointer (some ⟨br, 0, none⟩)) (dv_move (T rfl rfl)) ?_
       have h174 := hx.bx E173 hAb
       have H175 := (s171.blk (n166.ext.blk H159) (by omega))
       refine lw_e (oe_callf (vs := [.pointer (some ⟨br, 0, none⟩)]) co85 (ar1 (T rfl rfl)) (rspot_ok h174 (by first | omega | (simp; done) | (simp; omega)) (by first | omega | (simp; done) | (simp; omega)) ok hAb H175 (by omega)) ?_)
       rintro _ w183 ⟨zi176, zi177, p180, rfl, e184, H181, hp182, hz178, hz179⟩
       have E185 := E173.trans e184
       refine lw_e (oe_alloc ze25 ?_)
       intro b186 w187 n188
       have N189 : w.heap.size ≤ b186 := n188.eq ▸ E185.size
       have H190 := (bx_blk e184 H172 (by omega))
       have : b164 < b186 := n188.eq ▸ lt_of_blk H190
       have E191 := bx_ext E185 n188.ext
       refine lw_e (oe_store (v := .agg #[.int .i64 zi176, .int .i64 zi177]) (vs := [.int .i64 zi176, .int .i64 zi177]) (l := [.int .i64 zi176, .int .i64 zi177]) (T rfl rfl) (T rfl rfl) sz25 rfl rfl rfl n188.blk rfl ?_)
       intro w192 s193 H194
       have E195 := bx_stN E191 N189 s193
       refine lw_nil ?_
       refine rk_seq ?_
       refine rk_seq ?_
       refine rk_reg ?_
       have H196 := (s193.blk (n188.ext.blk H190) (by omega))
       refine lw_v (.agg #[.int .i64 zi154, .int .i64 zi155]) (dv_loads (l := [.int .i64 zi154, .int .i64 zi155]) agt25 sz25 (T rfl rfl) H196 rfl) ?_
       refine lw_v (.agg #[.int .i64 zi176, .int .i64 zi177]) (dv_loads (l := [.int .i64 zi176, .int .i64 zi177]) agt25 sz25 (T rfl rfl) H194 rfl) ?_
       refine lw_v (.bool (decide (([zi154, zi155] : List Int) = [zi176, zi177]))) (dv_eqls (k := .i64) (la := [zi154, zi155]) (lb := [zi176, zi177]) fl25 eg25 (T rfl rfl) (T rfl rfl) rfl rfl) ?_
       refine lw_nil ?_
       by_cases hb197 : ([zi154, zi155] : List Int) = [zi176, zi177]
       · refine rk_ct (T rfl (congrArg Value.bool (decide_eq_true hb197))) ?_
         refine rk_reg ?_
         refine lw_v (.pointer (some ⟨b186, 0, none⟩)) (dv_fieldAddr (a := ⟨b186, 0, none⟩) (a' := ⟨b186, 0, none⟩) fo25_0 (T rfl rfl) rfl) ?_
         refine lw_v (.int .i64 zi176) (dv_load1 (b := b186) (o := 0) agt2 (T rfl rfl) H194 rfl) ?_
         refine lw_v (.int .i64 (zi176 + 1)) (dv_add (a := zi176) (b := 1) (z := zi176 + 1) (T rfl rfl) C (wr_i64 (by omega) (by omega))) ?_
         refine lw_v (.pointer (some ⟨b186, 0, none⟩)) (dv_fieldAddr (a := ⟨b186, 0, none⟩) (a' := ⟨b186, 0, none⟩) fo25_0 (T rfl rfl) rfl) ?_
         refine lw_e (oe_store (v := .int .i64 (zi176 + 1)) (vs := [.int .i64 (zi176 + 1)]) (l := [.int .i64 (zi176 + 1), .int .i64 zi177]) (T rfl rfl) (T rfl rfl) sz2 rfl rfl rfl H194 rfl ?_)
         intro w198 s199 H200
         have E201 := bx_stN E195 N189 s199
         refine lw_nil ?_
         refine rk_seq ?_
         refine rk_reg ?_
         have H202 := (s199.blk H196 (by omega))
         refine lw_v (.agg #[.int .i64 zi154, .int .i64 zi155]) (dv_loads (l := [.int .i64 zi154, .int .i64 zi155]) agt25 sz25 (T rfl rfl) H202 rfl) ?_
         refine lw_v (.agg #[.int .i64 (zi176 + 1), .int .i64 zi177]) (dv_loads (l := [.int .i64 (zi176 + 1), .int .i64 zi177]) agt25 sz25 (T rfl rfl) H200 rfl) ?_
         refine lw_e (oe_callf (vs := [.agg #[.int .i64 zi154, .int .i64 zi155], .agg #[.int .i64 (zi176 + 1), .int .i64 zi177]]) co83 (ar2 (T rfl rfl) (T rfl rfl)) (sSegOf_ok (ax := zi154) (ay := zi155) (bx := zi176 + 1) (b_y := zi177)  ) ?_)
         rintro _ w203 ⟨rfl, e204⟩
         have E205 := bx_ext E201 e204
         have := so_rg zi154 zi155 (zi176 + 1) zi177
         refine lw_v (.tuple #[.agg #[.int .i64 (so0 zi154 zi155 (zi176 + 1) zi177), .int .i64 (so1 zi154 zi155 (zi176 + 1) zi177), .int .i64 (so2 zi154 zi155 (zi176 + 1) zi177), .int .i64 (so3 zi154 zi155 (zi176 + 1) zi177)], .bool (decide (soS zi154 zi155 (zi176 + 1) zi177))]) (dv_move (T rfl rfl)) ?_
         refine lw_v (.agg #[.int .i64 (so0 zi154 zi155 (zi176 + 1) zi177), .int .i64 (so1 zi154 zi155 (zi176 + 1) zi177), .int .i64 (so2 zi154 zi155 (zi176 + 1) zi177), .int .i64 (so3 zi154 zi155 (zi176 + 1) zi177)]) (dv_extract (vs := #[.agg #[.int .i64 (so0 zi154 zi155 (zi176 + 1) zi177), .int .i64 (so1 zi154 zi155 (zi176 + 1) zi177), .int .i64 (so2 zi154 zi155 (zi176 + 1) zi177), .int .i64 (so3 zi154 zi155 (zi176 + 1) zi177)], .bool (decide (soS zi154 zi155 (zi176 + 1) zi177))]) (T rfl rfl) rfl) ?_
         refine lw_v (.bool (decide (soS zi154 zi155 (zi176 + 1) zi177))) (dv_extract (vs := #[.agg #[.int .i64 (so0 zi154 zi155 (zi176 + 1) zi177), .int .i64 (so1 zi154 zi155 (zi176 + 1) zi177), .int .i64 (so2 zi154 zi155 (zi176 + 1) zi177), .int .i64 (so3 zi154 zi155 (zi176 + 1) zi177)], .bool (decide (soS zi154 zi155 (zi176 + 1) zi177))]) (T rfl rfl) rfl) ?_
         refine lw_e (oe_alloc ze27 ?_)
         intro b206 w207 n208
         have N209 : w.heap.size ≤ b206 := n208.eq ▸ E205.size
         have H210 := (e204.blk H200)
         have : b186 < b206 := n208.eq ▸ lt_of_blk H210
         have E211 := bx_ext E205 n208.ext
         refine lw_e (oe_store (v := .agg #[.int .i64 (so0 zi154 zi155 (zi176 + 1) zi177), .int .i64 (so1 zi154 zi155 (zi176 + 1) zi177), .int .i64 (so2 zi154 zi155 (zi176 + 1) zi177), .int .i64 (so3 zi154 zi155 (zi176 + 1) zi177)]) (vs := [.int .i64 (so0 zi154 zi155 (zi176 + 1) zi177), .int .i64 (so1 zi154 zi155 (zi176 + 1) zi177), .int .i64 (so2 zi154 zi155 (zi176 + 1) zi177), .int .i64 (so3 zi154 zi155 (zi176 + 1) zi177)]) (l := [.int .i64 (so0 zi154 zi155 (zi176 + 1) zi177), .int .i64 (so1 zi154 zi155 (zi176 + 1) zi177), .int .i64 (so2 zi154 zi155 (zi176 + 1) zi177), .int .i64 (so3 zi154 zi155 (zi176 + 1) zi177)]) (T rfl rfl) (T rfl rfl) sz27 rfl rfl rfl n208.blk rfl ?_)
         intro w212 s213 H214
         have E215 := bx_stN E211 N209 s213
         refine lw_v (.bool (decide (soS zi154 zi155 (zi176 + 1) zi177))) (dv_assign (T rfl rfl)) ?_
         refine lw_nil ?_
         refine rk_seq ?_
         refine rk_reg ?_
         refine lw_v (.agg #[.int .i64 (so0 zi154 zi155 (zi176 + 1) zi177), .int .i64 (so1 zi154 zi155 (zi176 + 1) zi177), .int .i64 (so2 zi154 zi155 (zi176 + 1) zi177), .int .i64 (so3 zi154 zi155 (zi176 + 1) zi177)]) (dv_loads (l := [.int .i64 (so0 zi154 zi155 (zi176 + 1) zi177), .int .i64 (so1 zi154 zi155 (zi176 + 1) zi177), .int .i64 (so2 zi154 zi155 (zi176 + 1) zi177), .int .i64 (so3 zi154 zi155 (zi176 + 1) zi177)]) agt27 sz27 (T rfl rfl) H214 rfl) ?_
         have H216 := (s213.blk (n208.ext.blk (e204.blk (s199.blk (s193.blk (n188.ext.blk (bx_blk e184 (s171.blk (n166.ext.blk H168) (by omega)) (by omega))) (by omega)) (by omega)))) (by omega))
         refine lw_e (oe_store (v := .agg #[.int .i64 (so0 zi154 zi155 (zi176 + 1) zi177), .int .i64 (so1 zi154 zi155 (zi176 + 1) zi177), .int .i64 (so2 zi154 zi155 (zi176 + 1) zi177), .int .i64 (so3 zi154 zi155 (zi176 + 1) zi177)]) (vs := [.int .i64 (so0 zi154 zi155 (zi176 + 1) zi177), .int .i64 (so1 zi154 zi155 (zi176 + 1) zi177), .int .i64 (so2 zi154 zi155 (zi176 + 1) zi177), .int .i64 (so3 zi154 zi155 (zi176 + 1) zi177)]) (l := [.int .i64 (so0 zi154 zi155 (zi176 + 1) zi177), .int .i64 (so1 zi154 zi155 (zi176 + 1) zi177), .int .i64 (so2 zi154 zi155 (zi176 + 1) zi177), .int .i64 (so3 zi154 zi155 (zi176 + 1) zi177)]) (T rfl rfl) (T rfl rfl) sz27 rfl rfl rfl H216 rfl ?_)
         intro w217 s218 H219
         have E220 := bx_stN E215 N4 s218
         refine lw_nil ?_
         refine rk_ret Try.func38 (v := .agg #[.int .i64 (so0 zi154 zi155 (zi176 + 1) zi177), .int .i64 (so1 zi154 zi155 (zi176 + 1) zi177), .int .i64 (so2 zi154 zi155 (zi176 + 1) zi177), .int .i64 (so3 zi154 zi155 (zi176 + 1) zi177)]) (res1 Try.results38 (rv_cells (l := [.int .i64 (so0 zi154 zi155 (zi176 + 1) zi177), .int .i64 (so1 zi154 zi155 (zi176 + 1) zi177), .int .i64 (so2 zi154 zi155 (zi176 + 1) zi177), .int .i64 (so3 zi154 zi155 (zi176 + 1) zi177)]) agt27 sz27 rfl rfl H219 rfl)) ⟨_, rfl, ?_⟩
         have H221 := (s218.blk (s213.blk (n208.ext.blk (e204.blk (s199.blk (s193.blk (n188.ext.blk H181) (by omega)) (by omega)))) (by omega)) (by omega))
         exact ⟨so0 zi154 zi155 (zi176 + 1) zi177, so1 zi154 zi155 (zi176 + 1) zi177, so2 zi154 zi155 (zi176 + 1) zi177, so3 zi154 zi155 (zi176 + 1) zi177, p180, rfl, E220, H221, (by omega), (by first | omega | (unfold mn; split <;> omega) | (unfold mx; split <;> omega)), (by first | omega | (unfold mn; split <;> omega) | (unfold mx; split <;> omega)), (by first | omega | (unfold mn; split <;> omega) | (unfold mx; split <;> omega)), (by first | omega | (unfold mn; split <;> omega) | (unfold mx; split <;> omega))⟩
       · refine rk_cf (T rfl (congrArg Value.bool (decide_eq_false hb197))) ?_
         refine rk_skip ?_
         refine rk_seq ?_
         refine rk_reg ?_
         refine lw_v (.agg #[.int .i64 zi154, .int .i64 zi155]) (dv_loads (l := [.int .i64 zi154, .int .i64 zi155]) agt25 sz25 (T rfl rfl) H196 rfl) ?_
         refine lw_v (.agg #[.int .i64 zi176, .int .i64 zi177]) (dv_loads (l := [.int .i64 zi176, .int .i64 zi177]) agt25 sz25 (T rfl rfl) H194 rfl) ?_
         refine lw_e (oe_callf (vs := [.agg #[.int .i64 zi154, .int .i64 zi155], .agg #[.int .i64 zi176, .int .i64 zi177]]) co83 (ar2 (T rfl rfl) (T rfl rfl)) (sSegOf_ok (ax := zi154) (ay := zi155) (bx := zi176) (b_y := zi177)  ) ?_)
         rintro _ w222 ⟨rfl, e223⟩
         have E224 := bx_ext E195 e223
         have := so_rg zi154 zi155 zi176 zi177
         refine lw_v (.tuple #[.agg #[.int .i64 (so0 zi154 zi155 zi176 zi177), .int .i64 (so1 zi154 zi155 zi176 zi177), .int .i64 (so2 zi154 zi155 zi176 zi177), .int .i64 (so3 zi154 zi155 zi176 zi177)], .bool (decide (soS zi154 zi155 zi176 zi177))]) (dv_move (T rfl rfl)) ?_
         refine lw_v (.agg #[.int .i64 (so0 zi154 zi155 zi176 zi177), .int .i64 (so1 zi154 zi155 zi176 zi177), .int .i64 (so2 zi154 zi155 zi176 zi177), .int .i64 (so3 zi154 zi155 zi176 zi177)]) (dv_extract (vs := #[.agg #[.int .i64 (so0 zi154 zi155 zi176 zi177), .int .i64 (so1 zi154 zi155 zi176 zi177), .int .i64 (so2 zi154 zi155 zi176 zi177), .int .i64 (so3 zi154 zi155 zi176 zi177)], .bool (decide (soS zi154 zi155 zi176 zi177))]) (T rfl rfl) rfl) ?_
         refine lw_v (.bool (decide (soS zi154 zi155 zi176 zi177))) (dv_extract (vs := #[.agg #[.int .i64 (so0 zi154 zi155 zi176 zi177), .int .i64 (so1 zi154 zi155 zi176 zi177), .int .i64 (so2 zi154 zi155 zi176 zi177), .int .i64 (so3 zi154 zi155 zi176 zi177)], .bool (decide (soS zi154 zi155 zi176 zi177))]) (T rfl rfl) rfl) ?_
         refine lw_e (oe_alloc ze27 ?_)
         intro b225 w226 n227
         have N228 : w.heap.size ≤ b225 := n227.eq ▸ E224.size
         have H229 := (e223.blk H194)
         have : b186 < b225 := n227.eq ▸ lt_of_blk H229
         have E230 := bx_ext E224 n227.ext
         refine lw_e (oe_store (v := .agg #[.int .i64 (so0 zi154 zi155 zi176 zi177), .int .i64 (so1 zi154 zi155 zi176 zi177), .int .i64 (so2 zi154 zi155 zi176 zi177), .int .i64 (so3 zi154 zi155 zi176 zi177)]) (vs := [.int .i64 (so0 zi154 zi155 zi176 zi177), .int .i64 (so1 zi154 zi155 zi176 zi177), .int .i64 (so2 zi154 zi155 zi176 zi177), .int .i64 (so3 zi154 zi155 zi176 zi177)]) (l := [.int .i64 (so0 zi154 zi155 zi176 zi177), .int .i64 (so1 zi154 zi155 zi176 zi177), .int .i64 (so2 zi154 zi155 zi176 zi177), .int .i64 (so3 zi154 zi155 zi176 zi177)]) (T rfl rfl) (T rfl rfl) sz27 rfl rfl rfl n227.blk rfl ?_)
         intro w231 s232 H233
         have E234 := bx_stN E230 N228 s232
         refine lw_v (.bool (decide (soS zi154 zi155 zi176 zi177))) (dv_assign (T rfl rfl)) ?_
         refine lw_nil ?_
         refine rk_seq ?_
         refine rk_reg ?_
         refine lw_v (.agg #[.int .i64 (so0 zi154 zi155 zi176 zi177), .int .i64 (so1 zi154 zi155 zi176 zi177), .int .i64 (so2 zi154 zi155 zi176 zi177), .int .i64 (so3 zi154 zi155 zi176 zi177)]) (dv_loads (l := [.int .i64 (so0 zi154 zi155 zi176 zi177), .int .i64 (so1 zi154 zi155 zi176 zi177), .int .i64 (so2 zi154 zi155 zi176 zi177), .int .i64 (so3 zi154 zi155 zi176 zi177)]) agt27 sz27 (T rfl rfl) H233 rfl) ?_
         have H235 := (s232.blk (n227.ext.blk (e223.blk (s193.blk (n188.ext.blk (bx_blk e184 (s171.blk (n166.ext.blk H168) (by omega)) (by omega))) (by omega)))) (by omega))
         refine lw_e (oe_store (v := .agg #[.int .i64 (so0 zi154 zi155 zi176 zi177), .int .i64 (so1 zi154 zi155 zi176 zi177), .int .i64 (so2 zi154 zi155 zi176 zi177), .int .i64 (so3 zi154 zi155 zi176 zi177)]) (vs := [.int .i64 (so0 zi154 zi155 zi176 zi177), .int .i64 (so1 zi154 zi155 zi176 zi177), .int .i64 (so2 zi154 zi155 zi176 zi177), .int .i64 (so3 zi154 zi155 zi176 zi177)]) (l := [.int .i64 (so0 zi154 zi155 zi176 zi177), .int .i64 (so1 zi154 zi155 zi176 zi177), .int .i64 (so2 zi154 zi155 zi176 zi177), .int .i64 (so3 zi154 zi155 zi176 zi177)]) (T rfl rfl) (T rfl rfl) sz27 rfl rfl rfl H235 rfl ?_)
         intro w236 s237 H238
         have E239 := bx_stN E234 N4 s237
         refine lw_nil ?_
         refine rk_ret Try.func38 (v := .agg #[.int .i64 (so0 zi154 zi155 zi176 zi177), .int .i64 (so1 zi154 zi155 zi176 zi177), .int .i64 (so2 zi154 zi155 zi176 zi177), .int .i64 (so3 zi154 zi155 zi176 zi177)]) (res1 Try.results38 (rv_cells (l := [.int .i64 (so0 zi154 zi155 zi176 zi177), .int .i64 (so1 zi154 zi155 zi176 zi177), .int .i64 (so2 zi154 zi155 zi176 zi177), .int .i64 (so3 zi154 zi155 zi176 zi177)]) agt27 sz27 rfl rfl H238 rfl)) ⟨_, rfl, ?_⟩
         have H240 := (s237.blk (s232.blk (n227.ext.blk (e223.blk (s193.blk (n188.ext.blk H181) (by omega)))) (by omega)) (by omega))
         exact ⟨so0 zi154 zi155 zi176 zi177, so1 zi154 zi155 zi176 zi177, so2 zi154 zi155 zi176 zi177, so3 zi154 zi155 zi176 zi177, p180, rfl, E239, H240, (by omega), (by first | omega | (unfold mn; split <;> omega) | (unfold mx; split <;> omega)), (by first | omega | (unfold mn; split <;> omega) | (unfold mx; split <;> omega)), (by first | omega | (unfold mn; split <;> omega) | (unfold mx; split <;> omega)), (by first | omega | (unfold mn; split <;> omega) | (unfold mx; split <;> omega))⟩
set_option maxHeartbeats 1000000 in
theorem rbox_ok {w : World} {br : Nat} {A : Option Addr} {l c : Nat} {xs : List Int} {p : Int} (hx : RdI w .u8 A xs) (hxl : xs.length = l) (hl : l ≤ 1048576) (ok : okW 256 xs) (hAb : xs = [] ∨ ∀ g o, A = some ⟨g, o, none⟩ → g ≠ br) (hB : w.heap[br]? = some (.cells #[.slice A l c, .int .i64 p] 124)) (hp : 0 ≤ p ∧ p ≤ l) : Ct Try.prog 39 [.pointer (some ⟨br, 0, none⟩)] w fun v w1 => ∃ (z0_ : Int) (z1_ : Int) (z2_ : Int) (z3_ : Int) (p' : Int), v = .tuple #[.agg #[.int .i64 z0_, .int .i64 z1_], .agg #[.int .i64 z2_, .int .i64 z3_]] ∧ Bx br w w1 ∧ w1.heap[br]? = some (.cells #[.slice A l c, .int .i64 p'] 124) ∧ (0 ≤ p' ∧ p' ≤ l) ∧ (-9223372036854775808 ≤ z0_ ∧ z0_ < 9223372036854775808) ∧ (-9223372036854775808 ≤ z1_ ∧ z1_ < 9223372036854775808) ∧ (-9223372036854775808 ≤ z2_ ∧ z2_ < 9223372036854775808) ∧ (-9223372036854775808 ≤ z3_ ∧ z3_ < 9223372036854775808) := by
 refine ct_run (n := 36) Try.func39 rfl Try.ntmps39 rfl ?_
 have E0 : Bx br w w := Bx.refl _ _
 refine rk_seq ?_
 refine rk_reg ?_
 refine lw_e (oe_alloc ze25 ?_)
 intro b1 w2 n3
 have N4 : w.heap.size ≤ b1 := n3.eq ▸ E0.size
 have : br < b1 := n3.eq ▸ lt_of_blk hB
 have E5 := bx_ext E0 n3.ext
 refine lw_e (oe_alloc ze25 ?_)
 intro b6 w7 n8
 have N9 : w.heap.size ≤ b6 := n8.eq ▸ E5.size
 have : b1 < b6 := n8.eq ▸ lt_of_blk n3.blk
 have E10 := bx_ext E5 n8.ext
 refine lw_nil ?_
 refine rk_seq ?_
 refine rk_reg ?_
 refine lw_v (.pointer (some ⟨br, 0, none⟩)) (dv_move (T rfl rfl)) ?_
 have h11 := ((hx.ext n3.ext).ext n8.ext)
 have H12 := (n8.ext.blk (n3.ext.blk hB))
 refine lw_e (oe_callf (vs := [.pointer (some ⟨br, 0, none⟩)]) co85 (ar1 (T rfl rfl)) (rspot_ok h11 (by first | omega | (simp; done) | (simp; omega)) (by first | omega | (simp; done) | (simp; omega)) ok hAb H12 (by omega)) ?_)
 rintro _ w20 ⟨zi13, zi14, p17, rfl, e21, H18, hp19, hz15, hz16⟩
 have E22 := E10.trans e21
 refine lw_e (oe_alloc ze25 ?_)
 intro b23 w24 n25
 have N26 : w.heap.size ≤ b23 := n25.eq ▸ E22.size
 have H27 := (bx_blk e21 n8.blk (by omega))
 have : b6 < b23 := n25.eq ▸ lt_of_blk H27
 have E28 := bx_ext E22 n25.ext
 refine lw_e (oe_store (v := .agg #[.int .i64 zi13, .int .i64 zi14]) (vs := [.int .i64 zi13, .int .i64 zi14]) (l := [.int .i64 zi13, .int .i64 zi14]) (T rfl rfl) (T rfl rfl) sz25 rfl rfl rfl n25.blk rfl ?_)
 intro w29 s30 H31
 have E32 := bx_stN E28 N26 s30
 refine lw_nil ?_
 refine rk_seq ?_
 refine rk_reg ?_
 refine lw_v (.pointer (some ⟨br, 0, none⟩)) (dv_move (T rfl rfl)) ?_
 have h33 := hx.bx E32 hAb
 have H34 := (s30.blk (n25.ext.blk H18) (by omega))
 refine lw_e (oe_callf (vs := [.pointer (some ⟨br, 0, none⟩)]) co85 (ar1 (T rfl rfl)) (rspot_ok h33 (by first | omega | (simp; done) | (simp; omega)) (by first | omega | (simp; done) | (simp; omega)) ok hAb H34 (by omega)) ?_)
 rintro _ w42 ⟨zi35, zi36, p39, rfl, e43, H40, hp41, hz37, hz38⟩
 have E44 := E32.trans e43
 refine lw_e (oe_alloc ze25 ?_)
 intro b45 w46 n47
 have N48 : w.heap.size ≤ b45 := n47.eq ▸ E44.size
 have H49 := (bx_blk e43 H31 (by omega))
 have : b23 < b45 := n47.eq ▸ lt_of_blk H49
 have E50 := bx_ext E44 n47.ext
 refine lw_e (oe_store (v := .agg #[.int .i64 zi35, .int .i64 zi36]) (vs := [.int .i64 zi35, .int .i64 zi36]) (l := [.int .i64 zi35, .int .i64 zi36]) (T rfl rfl) (T rfl rfl) sz25 rfl rfl rfl n47.blk rfl ?_)
 intro w51 s52 H53
 have E54 := bx_stN E50 N48 s52
 refine lw_nil ?_
 refine rk_seq ?_
 refine rk_seq ?_
 refine rk_reg ?_
 refine lw_v (.pointer (some ⟨br, 0, none⟩)) (dv_move (T rfl rfl)) ?_
 have h55 := hx.bx E54 hAb
 have H56 := (s52.blk (n47.ext.blk H40) (by omega))
 refine lw_e (oe_callf (vs := [.pointer (some ⟨br, 0, none⟩), .int .i64 16]) co86 (ar2 (T rfl rfl) C) (ronce_ok (n := 16) h55 (by first | omega | (simp; done) | (simp; omega)) (by first | omega | (simp; done) | (simp; omega)) ok hAb H56 (by omega) (by omega)) ?_)
 rintro _ w63 ⟨zb57, p58, rfl, e64, H60, hp61, _⟩
 have E65 := E54.trans e64
 refine lw_nil ?_
 rcases Bool.eq_false_or_eq_true (zb57) with hb66 | hb66
 · refine rk_ct (T rfl (congrArg Value.bool hb66)) ?_
   refine rk_seq ?_
   refine rk_any (fun w => w.heap[b23]? = some (.cells #[.int .i64 zi13, .int .i64 zi14] 25) ∧ w.heap[b45]? = some (.cells #[.int .i64 zi35, .int .i64 zi36] 25)) [3] mo ?_
   intro w67 d68
   have E69 := bx_ext E65 d68.ext
   have H70 := (d68.ext.blk (bx_blk e64 (s52.blk (n47.ext.blk H49) (by omega)) (by omega)))
   have H71 := (d68.ext.blk (bx_blk e64 H53 (by omega)))
   refine aw_load 0 (.agg #[.int .i64 zi13, .int .i64 zi14]) rfl (by kernel_rfl) .none ⟨H70, H71⟩ (fun _ s => dv_loads (l := [.int .i64 zi13, .int .i64 zi14]) agt25 sz25 (T rfl rfl) s.1 rfl) ?_
   refine aw_load 1 (.agg #[.int .i64 zi35, .int .i64 zi36]) rfl (by kernel_rfl) .none ⟨H70, H71⟩ (fun _ s => dv_loads (l := [.int .i64 zi35, .int .i64 zi36]) agt25 sz25 (T rfl rfl) s.2 rfl) ?_
   have H72 := (d68.ext.blk (bx_blk e64 (s52.blk (n47.ext.blk (bx_blk e43 (s30.blk (n25.ext.blk (bx_blk e21 (n8.ext.blk n3.blk) (by omega))) (by omega)) (by omega))) (by omega)) (by omega)))
   refine aw_one 2 rfl (by kernel_rfl) .none (oe_store (v := .agg #[.int .i64 zi13, .int .i64 zi14]) (vs := [.int .i64 zi13, .int .i64 zi14]) (l := [.int .i64 zi13, .int .i64 zi14]) (T rfl rfl) (T rfl rfl) sz25 rfl rfl rfl H72 rfl ?_)
   intro w73 s74 H75
   have E76 := bx_stN E69 N4 s74
   have H77 := (s74.blk H70 (by omega))
   have H78 := (s74.blk H71 (by omega))
   refine ⟨.inr ⟨H77, H78⟩, ?_⟩
   have H79 := (s74.blk (d68.ext.blk (bx_blk e64 (s52.blk (n47.ext.blk (bx_blk e43 (s30.blk (n25.ext.blk H27) (by omega)) (by omega))) (by omega)) (by omega))) (by omega))
   refine aw_one 3 rfl (by kernel_rfl) .none (oe_store (v := .agg #[.int .i64 zi35, .int .i64 zi36]) (vs := [.int .i64 zi35, .int .i64 zi36]) (l := [.int .i64 zi35, .int .i64 zi36]) (T rfl rfl) (T rfl rfl) sz25 rfl rfl rfl H79 rfl ?_)
   intro w80 s81 H82
   have E83 := bx_stN E76 N9 s81
   refine ⟨.inl rfl, ?_⟩
   refine aw_done (by kernel_rfl) ?_
   have H84 := (s81.blk H75 (by omega))
   refine rk_ret Try.func39 (v := .tuple #[.agg #[.int .i64 zi13, .int .i64 zi14], .agg #[.int .i64 zi35, .int .i64 zi36]]) (res2 Try.results39 (rv_cells (l := [.int .i64 zi13, .int .i64 zi14]) agt25 sz25 rfl rfl H84 rfl) (rv_cells (l := [.int .i64 zi35, .int .i64 zi36]) agt25 sz25 rfl rfl H82 rfl)) ⟨_, rfl, ?_⟩
   have H85 := (s81.blk (s74.blk (d68.ext.blk H60) (by omega)) (by omega))
   exact ⟨zi13, zi14, zi35, zi36, p58, rfl, E83, H85, (by omega), (by first | omega | (unfold mn; split <;> omega) | (unfold mx; split <;> omega)), (by first | omega | (unfold mn; split <;> omega) | (unfold mx; split <;> omega)), (by first | omega | (unfold mn; split <;> omega) | (unfold mx; split <;> omega)), (by first | omega | (unfold mn; split <;> omega) | (unfold mx; split <;> omega))⟩
 · refine rk_cf (T rfl (congrArg Value.bool hb66)) ?_
   refine rk_skip ?_
   refine rk_seq ?_
   refine rk_any (fun w => w.heap[b23]? = some (.cells #[.int .i64 zi13, .int .i64 zi14] 25) ∧ w.heap[b45]? = some (.cells #[.int .i64 zi35, .int .i64 zi36] 25)) [23] mo ?_
   intro w86 d87
   have E88 := bx_ext E65 d87.ext
   have H89 := (d87.ext.blk (bx_blk e64 (s52.blk (n47.ext.blk H49) (by omega)) (by omega)))
   have H90 := (d87.ext.blk (bx_blk e64 H53 (by omega)))
   refine aw_pure 0 (.pointer (some ⟨b23, 0, none⟩)) rfl (by kernel_rfl) .none ⟨H89, H90⟩ (fun _ => dv_fieldAddr (a := ⟨b23, 0, none⟩) (a' := ⟨b23, 0, none⟩) fo25_0 (T rfl rfl) rfl) ?_
   refine aw_load 1 (.int .i64 zi13) rfl (by kernel_rfl) .none ⟨H89, H90⟩ (fun _ s => dv_load1 (b := b23) (o := 0) agt2 (T rfl rfl) s.1 rfl) ?_
   refine aw_pure 2 (.pointer (some ⟨b45, 0, none⟩)) rfl (by kernel_rfl) .none ⟨H89, H90⟩ (fun _ => dv_fieldAddr (a := ⟨b45, 0, none⟩) (a' := ⟨b45, 0, none⟩) fo25_0 (T rfl rfl) rfl) ?_
   refine aw_load 3 (.int .i64 zi35) rfl (by kernel_rfl) .none ⟨H89, H90⟩ (fun _ s => dv_load1 (b := b45) (o := 0) agt2 (T rfl rfl) s.2 rfl) ?_
   refine aw_pure 4 (.int .i64 (mn zi13 zi35)) rfl (by kernel_rfl) .none ⟨H89, H90⟩ (fun _ => dv_min (a := zi13) (b := zi35) (T rfl rfl) (T rfl rfl)) ?_
   refine aw_pure 5 (.pointer (some ⟨b23, 1, none⟩)) rfl (by kernel_rfl) .none ⟨H89, H90⟩ (fun _ => dv_fieldAddr (a := ⟨b23, 0, none⟩) (a' := ⟨b23, 1, none⟩) fo25_1 (T rfl rfl) rfl) ?_
   refine aw_load 6 (.int .i64 zi14) rfl (by kernel_rfl) .none ⟨H89, H90⟩ (fun _ s => dv_load1 (b := b23) (o := 1) agt2 (T rfl rfl) s.1 rfl) ?_
   refine aw_pure 7 (.pointer (some ⟨b45, 1, none⟩)) rfl (by kernel_rfl) .none ⟨H89, H90⟩ (fun _ => dv_fieldAddr (a := ⟨b45, 0, none⟩) (a' := ⟨b45, 1, none⟩) fo25_1 (T rfl rfl) rfl) ?_
   refine aw_load 8 (.int .i64 zi36) rfl (by kernel_rfl) .none ⟨H89, H90⟩ (fun _ s => dv_load1 (b := b45) (o := 1) agt2 (T rfl rfl) s.2 rfl) ?_
   refine aw_pure 9 (.int .i64 (mn zi14 zi36)) rfl (by kernel_rfl) .none ⟨H89, H90⟩ (fun _ => dv_min (a := zi14) (b := zi36) (T rfl rfl) (T rfl rfl)) ?_
   refine aw_pure 10 (.agg #[.int .i64 (mn zi13 zi35), .int .i64 (mn zi14 zi36)]) rfl (by kernel_rfl) .none ⟨H89, H90⟩ (fun _ => dv_build (pv := [(0, .int .i64 (mn zi13 zi35)), (1, .int .i64 (mn zi14 zi36))]) (l := [.int .i64 (mn zi13 zi35), .int .i64 (mn zi14 zi36)]) zc25 pl25 ⟨rfl, (T rfl rfl), ⟨rfl, (T rfl rfl), trivial⟩⟩ rfl) ?_
   refine aw_pure 11 (.pointer (some ⟨b23, 0, none⟩)) rfl (by kernel_rfl) .none ⟨H89, H90⟩ (fun _ => dv_fieldAddr (a := ⟨b23, 0, none⟩) (a' := ⟨b23, 0, none⟩) fo25_0 (T rfl rfl) rfl) ?_
   refine aw_load 12 (.int .i64 zi13) rfl (by kernel_rfl) .none ⟨H89, H90⟩ (fun _ s => dv_load1 (b := b23) (o := 0) agt2 (T rfl rfl) s.1 rfl) ?_
   refine aw_pure 13 (.pointer (some ⟨b45, 0, none⟩)) rfl (by kernel_rfl) .none ⟨H89, H90⟩ (fun _ => dv_fieldAddr (a := ⟨b45, 0, none⟩) (a' := ⟨b45, 0, none⟩) fo25_0 (T rfl rfl) rfl) ?_
   refine aw_load 14 (.int .i64 zi35) rfl (by kernel_rfl) .none ⟨H89, H90⟩ (fun _ s => dv_load1 (b := b45) (o := 0) agt2 (T rfl rfl) s.2 rfl) ?_
   refine aw_pure 15 (.int .i64 (mx zi13 zi35)) rfl (by kernel_rfl) .none ⟨H89, H90⟩ (fun _ => dv_max (a := zi13) (b := zi35) (T rfl rfl) (T rfl rfl)) ?_
   refine aw_pure 16 (.pointer (some ⟨b23, 1, none⟩)) rfl (by kernel_rfl) .none ⟨H89, H90⟩ (fun _ => dv_fieldAddr (a := ⟨b23, 0, none⟩) (a' := ⟨b23, 1, none⟩) fo25_1 (T rfl rfl) rfl) ?_
   refine aw_load 17 (.int .i64 zi14) rfl (by kernel_rfl) .none ⟨H89, H90⟩ (fun _ s => dv_load1 (b := b23) (o := 1) agt2 (T rfl rfl) s.1 rfl) ?_
   refine aw_pure 18 (.pointer (some ⟨b45, 1, none⟩)) rfl (by kernel_rfl) .none ⟨H89, H90⟩ (fun _ => dv_fieldAddr (a := ⟨b45, 0, none⟩) (a' := ⟨b45, 1, none⟩) fo25_1 (T rfl rfl) rfl) ?_
   refine aw_load 19 (.int .i64 zi36) rfl (by kernel_rfl) .none ⟨H89, H90⟩ (fun _ s => dv_load1 (b := b45) (o := 1) agt2 (T rfl rfl) s.2 rfl) ?_
   refine aw_pure 20 (.int .i64 (mx zi14 zi36)) rfl (by kernel_rfl) .none ⟨H89, H90⟩ (fun _ => dv_max (a := zi14) (b := zi36) (T rfl rfl) (T rfl rfl)) ?_
   refine aw_pure 21 (.agg #[.int .i64 (mx zi13 zi35), .int .i64 (mx zi14 zi36)]) rfl (by kernel_rfl) .none ⟨H89, H90⟩ (fun _ => dv_build (pv := [(0, .int .i64 (mx zi13 zi35)), (1, .int .i64 (mx zi14 zi36))]) (l := [.int .i64 (mx zi13 zi35), .int .i64 (mx zi14 zi36)]) zc25 pl25 ⟨rfl, (T rfl rfl), ⟨rfl, (T rfl rfl), trivial⟩⟩ rfl) ?_
   have H91 := (d87.ext.blk (bx_blk e64 (s52.blk (n47.ext.blk (bx_blk e43 (s30.blk (n25.ext.blk (bx_blk e21 (n8.ext.blk n3.blk) (by omega))) (by omega)) (by omega))) (by omega)) (by omega)))
   refine aw_one 22 rfl (by kernel_rfl) .none (oe_store (v := .agg #[.int .i64 (mn zi13 zi35), .int .i64 (mn zi14 zi36)]) (vs := [.int .i64 (mn zi13 zi35), .int .i64 (mn zi14 zi36)]) (l := [.int .i64 (mn zi13 zi35), .int .i64 (mn zi14 zi36)]) (T rfl rfl) (T rfl rfl) sz25 rfl rfl rfl H91 rfl ?_)
   intro w92 s93 H94
   have E95 := bx_stN E88 N4 s93
   have H96 := (s93.blk H89 (by omega))
   have H97 := (s93.blk H90 (by omega))
   refine ⟨.inr ⟨H96, H97⟩, ?_⟩
   have H98 := (s93.blk (d87.ext.blk (bx_blk e64 (s52.blk (n47.ext.blk (bx_blk e43 (s30.blk (n25.ext.blk H27) (by omega)) (by omega))) (by omega)) (by omega))) (by omega))
   refine aw_one 23 rfl (by kernel_rfl) .none (oe_store (v := .agg #[.int .i64 (mx zi13 zi35), .int .i64 (mx zi14 zi36)]) (vs := [.int .i64 (mx zi13 zi35), .int .i64 (mx zi14 zi36)]) (l := [.int .i64 (mx zi13 zi35), .int .i64 (mx zi14 zi36)]) (T rfl rfl) (T rfl rfl) sz25 rfl rfl rfl H98 rfl ?_)
   intro w99 s100 H101
   have E102 := bx_stN E95 N9 s100
   refine ⟨.inl rfl, ?_⟩
   refine aw_done (by kernel_rfl) ?_
   have H103 := (s100.blk H94 (by omega))
   refine rk_ret Try.func39 (v := .tuple #[.agg #[.int .i64 (mn zi13 zi35), .int .i64 (mn zi14 zi36)], .agg #[.int .i64 (mx zi13 zi35), .int .i64 (mx zi14 zi36)]]) (res2 Try.results39 (rv_cells (l := [.int .i64 (mn zi13 zi35), .int .i64 (mn zi14 zi36)]) agt25 sz25 rfl rfl H103 rfl) (rv_cells (l := [.int .i64 (mx zi13 zi35), .int .i64 (mx zi14 zi36)]) agt25 sz25 rfl rfl H101 rfl)) ⟨_, rfl, ?_⟩
   have H104 := (s100.blk (s93.blk (d87.ext.blk H60) (by omega)) (by omega))
   exact ⟨mn zi13 zi35, mn zi14 zi36, mx zi13 zi35, mx zi14 zi36, p58, rfl, E102, H104, (by omega), (by first | omega | (unfold mn; split <;> omega) | (unfold mx; split <;> omega)), (by first | omega | (unfold mn; split <;> omega) | (unfold mx; split <;> omega)), (by first | omega | (unfold mn; split <;> omega) | (unfold mx; split <;> omega)), (by first | omega | (unfold mn; split <;> omega) | (unfold mx; split <;> omega))⟩
set_option maxHeartbeats 1000000 in
theorem l1Open_ok {w : World} {A : Option Addr} {l c : Nat} : Ct Try.prog 37 [.slice A l c] w fun v w1 => ∃ b, v = .pointer (some ⟨b, 0, none⟩) ∧ Ext w w1 ∧ w1.heap[b]? = some (.cells #[.slice A l c, .int .i64 0] 124) ∧ w.heap.size ≤ b := by
 refine ct_run (n := 6) Try.func37 rfl Try.ntmps37 rfl ?_
 have E0 : Below w.heap.size w w := Below.refl _ _
 refine rk_seq ?_
 refine rk_reg ?_
 refine lw_v (.pointer none) (dv_assign C) ?_
 refine lw_nil ?_
 refine rk_seq ?_
 refine rk_reg ?_
 refine lw_v (.slice A l c) (dv_move (T rfl rfl)) ?_
 refine lw_v (.agg #[.slice A l c, .int .i64 0]) (dv_build (pv := [(0, .slice A l c)]) (l := [.slice A l c, .int .i64 0]) zc124 pl124 ⟨rfl, (T rfl rfl), trivial⟩ rfl) ?_
 refine lw_e (oe_box (v := .agg #[.slice A l c, .int .i64 0]) (cs := #[.slice A l c, .int .i64 0]) (T rfl rfl) rfl ?_)
 intro b1 w2 n3
 have N4 : w.heap.size ≤ b1 := n3.eq ▸ E0.size
 have E5 := below_ext E0 E0.size n3.ext
 refine lw_v (.pointer (some ⟨b1, 0, none⟩)) (dv_assign (T rfl rfl)) ?_
 refine lw_nil ?_
 refine rk_ret Try.func37 (v := .pointer (some ⟨b1, 0, none⟩)) (res1 Try.results37 (rv_tmp rfl rfl)) ⟨_, rfl, ?_⟩
 exact ⟨_, rfl, E5, n3.blk, N4⟩
end Go.Proofs.Ytmbpomcbdopgnaa.W
set_option linter.unusedVariables false
set_option linter.unusedSimpArgs false
namespace Go.Proofs.Ytmbpomcbdopgnaa.W
open Go Go.RowKit Go.Proofs.Ytmbpomcbdopgnaa.Fw
attribute [local irreducible] RunK LW AW DV OE Ct
theorem co11 : callOk Try.prog 11 = true := by kernel_rfl
theorem co40 : callOk Try.prog 40 = true := by kernel_rfl
theorem co41 : callOk Try.prog 41 = true := by kernel_rfl
theorem co79 : callOk Try.prog 79 = true := by kernel_rfl
theorem co87 : callOk Try.prog 87 = true := by kernel_rfl
set_option maxHeartbeats 1000000 in
theorem isign_ok {w : World} {n : Int}   : Ct Try.prog 79 [.int .i64 n] w fun v w1 => v = .int .i64 (sgnI n) ∧ Ext w w1 := by
 refine ct_run (n := 9) Try.func79 rfl Try.ntmps79 rfl ?_
 have E0 : Below w.heap.size w w := Below.refl _ _
 refine rk_seq ?_
 refine rk_reg ?_
 refine lw_v (.int .i64 0) (dv_assign C) ?_
 refine lw_nil ?_
 refine rk_seq ?_
 refine rk_block ?_
 refine rk_seq ?_
 refine rk_reg ?_
 refine lw_v (.int .i64 n) (dv_move (T rfl rfl)) ?_
 refine lw_v (.bool (decide (n < 0))) (dv_lss (a := n) (b := 0) (T rfl rfl) C) ?_
 refine lw_v (.bool (decide (n < 0))) (dv_assign (T rfl rfl)) ?_
 refine lw_nil ?_
 by_cases hb1 : n < 0
 · refine rk_ct (T rfl (congrArg Value.bool (decide_eq_true hb1))) ?_
   refine rk_seq ?_
   refine rk_reg ?_
   refine lw_v (.int .i64 (-1)) (dv_assign C) ?_
   refine lw_nil ?_
   refine rk_ret Try.func79 (v := .int .i64 (-1)) (res1 Try.results79 (rv_tmp rfl rfl)) ⟨_, rfl, ?_⟩
   exact ⟨(vi (by unfold sgnI; grind)), E0⟩
 · refine rk_cf (T rfl (congrArg Value.bool (decide_eq_false hb1))) ?_
   refine rk_seq ?_
   refine rk_reg ?_
   refine lw_v (.int .i64 n) (dv_move (T rfl rfl)) ?_
   refine lw_v (.bool (decide (0 < n))) (dv_gtr (a := n) (b := 0) (T rfl rfl) C) ?_
   refine lw_v (.bool (decide (0 < n))) (dv_assign (T rfl rfl)) ?_
   refine lw_nil ?_
   by_cases hb2 : 0 < n
   · refine rk_ct (T rfl (congrArg Value.bool (decide_eq_true hb2))) ?_
     refine rk_seq ?_
     refine rk_reg ?_
     refine lw_v (.int .i64 1) (dv_assign C) ?_
     refine lw_nil ?_
     refine rk_ret Try.func79 (v := .int .i64 1) (res1 Try.results79 (rv_tmp rfl rfl)) ⟨_, rfl, ?_⟩
     exact ⟨(vi (by unfold sgnI; grind)), E0⟩
   · refine rk_cf (T rfl (congrArg Value.bool (decide_eq_false hb2))) ?_
     refine rk_skip ?_
     refine rk_inBlock ?_
     refine rk_seq ?_
     refine rk_reg ?_
     refine lw_v (.int .i64 0) (dv_assign C) ?_
     refine lw_nil ?_
     refine rk_ret Try.func79 (v := .int .i64 0) (res1 Try.results79 (rv_tmp rfl rfl)) ⟨_, rfl, ?_⟩
     exact ⟨(vi (by unfold sgnI; grind)), E0⟩
set_option maxHeartbeats 1000000 in
theorem cross_ok {w : World} {ax ay bx b_y px py : Int}  (hs_ : (-1000000 ≤ ax ∧ ax ≤ 1000000) ∧ (-1000000 ≤ ay ∧ ay ≤ 1000000) ∧ (-1000000 ≤ bx ∧ bx ≤ 1000000) ∧ (-1000000 ≤ b_y ∧ b_y ≤ 1000000)) (hp_ : (-1000000 ≤ px ∧ px ≤ 1000000) ∧ (-1000000 ≤ py ∧ py ≤ 1000000)) : Ct Try.prog 87 [.agg #[.int .i64 ax, .int .i64 ay], .agg #[.int .i64 bx, .int .i64 b_y], .agg #[.int .i64 px, .int .i64 py]] w fun v w1 => v = .int .i64 (crossI ax ay bx b_y px py) ∧ Ext w w1 := by
 refine ct_run (n := 30) Try.func87 rfl Try.ntmps87 rfl ?_
 have E0 : Below w.heap.size w w := Below.refl _ _
 refine rk_seq ?_
 refine rk_reg ?_
 refine lw_e (oe_box (v := .agg #[.int .i64 ax, .int .i64 ay]) (cs := #[.int .i64 ax, .int .i64 ay]) (T rfl rfl) rfl ?_)
 intro b1 w2 n3
 have N4 : w.heap.size ≤ b1 := n3.eq ▸ E0.size
 have E5 := below_ext E0 E0.size n3.ext
 refine lw_e (oe_box (v := .agg #[.int .i64 bx, .int .i64 b_y]) (cs := #[.int .i64 bx, .int .i64 b_y]) (T rfl rfl) rfl ?_)
 intro b6 w7 n8
 have N9 : w.heap.size ≤ b6 := n8.eq ▸ E5.size
 have : b1 < b6 := n8.eq ▸ lt_of_blk n3.blk
 have E10 := below_ext E5 E5.size n8.ext
 refine lw_e (oe_box (v := .agg #[.int .i64 px, .int .i64 py]) (cs := #[.int .i64 px, .int .i64 py]) (T rfl rfl) rfl ?_)
 intro b11 w12 n13
 have N14 : w.heap.size ≤ b11 := n13.eq ▸ E10.size
 have : b6 < b11 := n13.eq ▸ lt_of_blk n8.blk
 have E15 := below_ext E10 E10.size n13.ext
 refine lw_v (.int .i64 0) (dv_assign C) ?_
 refine lw_nil ?_
 refine rk_seq ?_
 refine rk_reg ?_
 refine lw_v (.pointer (some ⟨b6, 0, none⟩)) (dv_fieldAddr (a := ⟨b6, 0, none⟩) (a' := ⟨b6, 0, none⟩) fo25_0 (T rfl rfl) rfl) ?_
 have H16 := (n13.ext.blk n8.blk)
 refine lw_v (.int .i64 bx) (dv_load1 (b := b6) (o := 0) agt2 (T rfl rfl) H16 rfl) ?_
 refine lw_v (.pointer (some ⟨b1, 0, none⟩)) (dv_fieldAddr (a := ⟨b1, 0, none⟩) (a' := ⟨b1, 0, none⟩) fo25_0 (T rfl rfl) rfl) ?_
 have H17 := (n13.ext.blk (n8.ext.blk n3.blk))
 refine lw_v (.int .i64 ax) (dv_load1 (b := b1) (o := 0) agt2 (T rfl rfl) H17 rfl) ?_
 refine lw_v (.int .i64 (bx - ax)) (dv_sub (a := bx) (b := ax) (z := bx - ax) (T rfl rfl) (T rfl rfl) (wr_i64 (by omega) (by omega))) ?_
 refine lw_v (.pointer (some ⟨b11, 1, none⟩)) (dv_fieldAddr (a := ⟨b11, 0, none⟩) (a' := ⟨b11, 1, none⟩) fo25_1 (T rfl rfl) rfl) ?_
 refine lw_v (.int .i64 py) (dv_load1 (b := b11) (o := 1) agt2 (T rfl rfl) n13.blk rfl) ?_
 refine lw_v (.pointer (some ⟨b1, 1, none⟩)) (dv_fieldAddr (a := ⟨b1, 0, none⟩) (a' := ⟨b1, 1, none⟩) fo25_1 (T rfl rfl) rfl) ?_
 refine lw_v (.int .i64 ay) (dv_load1 (b := b1) (o := 1) agt2 (T rfl rfl) H17 rfl) ?_
 refine lw_v (.int .i64 (py - ay)) (dv_sub (a := py) (b := ay) (z := py - ay) (T rfl rfl) (T rfl rfl) (wr_i64 (by omega) (by omega))) ?_
 have hm18 := mul_bd (A := 2000000) (B := 2000000) (show -2000000 ≤ (bx - ax) by omega) (by omega) (show -2000000 ≤ (py - ay) by omega) (by omega)
 refine lw_v (.int .i64 ((bx - ax) * (py - ay))) (dv_mul (a := bx - ax) (b := py - ay) (z := (bx - ax) * (py - ay)) (T rfl rfl) (T rfl rfl) (wr_i64 (by omega) (by omega))) ?_
 refine lw_v (.pointer (some ⟨b6, 1, none⟩)) (dv_fieldAddr (a := ⟨b6, 0, none⟩) (a' := ⟨b6, 1, none⟩) fo25_1 (T rfl rfl) rfl) ?_
 refine lw_v (.int .i64 b_y) (dv_load1 (b := b6) (o := 1) agt2 (T rfl rfl) H16 rfl) ?_
 refine lw_v (.pointer (some ⟨b1, 1, none⟩)) (dv_fieldAddr (a := ⟨b1, 0, none⟩) (a' := ⟨b1, 1, none⟩) fo25_1 (T rfl rfl) rfl) ?_
 refine lw_v (.int .i64 ay) (dv_load1 (b := b1) (o := 1) agt2 (T rfl rfl) H17 rfl) ?_
 refine lw_v (.int .i64 (b_y - ay)) (dv_sub (a := b_y) (b := ay) (z := b_y - ay) (T rfl rfl) (T rfl rfl) (wr_i64 (by omega) (by omega))) ?_
 refine lw_v (.pointer (some ⟨b11, 0, none⟩)) (dv_fieldAddr (a := ⟨b11, 0, none⟩) (a' := ⟨b11, 0, none⟩) fo25_0 (T rfl rfl) rfl) ?_
 refine lw_v (.int .i64 px) (dv_load1 (b := b11) (o := 0) agt2 (T rfl rfl) n13.blk rfl) ?_
 refine lw_v (.pointer (some ⟨b1, 0, none⟩)) (dv_fieldAddr (a := ⟨b1, 0, none⟩) (a' := ⟨b1, 0, none⟩) fo25_0 (T rfl rfl) rfl) ?_
 refine lw_v (.int .i64 ax) (dv_load1 (b := b1) (o := 0) agt2 (T rfl rfl) H17 rfl) ?_
 refine lw_v (.int .i64 (px - ax)) (dv_sub (a := px) (b := ax) (z := px - ax) (T rfl rfl) (T rfl rfl) (wr_i64 (by omega) (by omega))) ?_
 have hm19 := mul_bd (A := 2000000) (B := 2000000) (show -2000000 ≤ (b_y - ay) by omega) (by omega) (show -2000000 ≤ (px - ax) by omega) (by omega)
 refine lw_v (.int .i64 ((b_y - ay) * (px - ax))) (dv_mul (a := b_y - ay) (b := px - ax) (z := (b_y - ay) * (px - ax)) (T rfl rfl) (T rfl rfl) (wr_i64 (by omega) (by omega))) ?_
 refine lw_v (.int .i64 (((bx - ax) * (py - ay)) - ((b_y - ay) * (px - ax)))) (dv_sub (a := (bx - ax) * (py - ay)) (b := (b_y - ay) * (px - ax)) (z := ((bx - ax) * (py - ay)) - ((b_y - ay) * (px - ax))) (T rfl rfl) (T rfl rfl) (wr_i64 (by omega) (by omega))) ?_
 refine lw_v (.int .i64 (((bx - ax) * (py - ay)) - ((b_y - ay) * (px - ax)))) (dv_assign (T rfl rfl)) ?_
 refine lw_nil ?_
 refine rk_ret Try.func87 (v := .int .i64 (((bx - ax) * (py - ay)) - ((b_y - ay) * (px - ax)))) (res1 Try.results87 (rv_tmp rfl rfl)) ⟨_, rfl, ?_⟩
 exact ⟨(vi (by rfl)), E15⟩
set_option maxHeartbeats 1000000 in
theorem iisBox_ok {w : World} {lx ly hx hy : Int}   : Ct Try.prog 40 [.agg #[.int .i64 lx, .int .i64 ly], .agg #[.int .i64 hx, .int .i64 hy]] w fun v w1 => v = .bool (decide (bxOk lx ly hx hy)) ∧ Ext w w1 := by
 refine ct_run (n := 25) Try.func40 rfl Try.ntmps40 rfl ?_
 have E0 : Below w.heap.size w w := Below.refl _ _
 refine rk_seq ?_
 refine rk_reg ?_
 refine lw_e (oe_box (v := .agg #[.int .i64 lx, .int .i64 ly]) (cs := #[.int .i64 lx, .int .i64 ly]) (T rfl rfl) rfl ?_)
 intro b1 w2 n3
 have N4 : w.heap.size ≤ b1 := n3.eq ▸ E0.size
 have E5 := below_ext E0 E0.size n3.ext
 refine lw_e (oe_box (v := .agg #[.int .i64 hx, .int .i64 hy]) (cs := #[.int .i64 hx, .int .i64 hy]) (T rfl rfl) rfl ?_)
 intro b6 w7 n8
 have N9 : w.heap.size ≤ b6 := n8.eq ▸ E5.size
 have : b1 < b6 := n8.eq ▸ lt_of_blk n3.blk
 have E10 := below_ext E5 E5.size n8.ext
 refine lw_v (.bool false) (dv_assign C) ?_
 refine lw_nil ?_
 refine rk_seq ?_
 refine rk_reg ?_
 have H11 := (n8.ext.blk n3.blk)
 refine lw_v (.agg #[.int .i64 lx, .int .i64 ly]) (dv_loads (l := [.int .i64 lx, .int .i64 ly]) agt25 sz25 (T rfl rfl) H11 rfl) ?_
 refine lw_e (oe_callf (vs := [.agg #[.int .i64 lx, .int .i64 ly]]) co12 (ar1 (T rfl rfl)) (iSpotOk_ok (x := lx) (y := ly)  ) ?_)
 rintro _ w12 ⟨rfl, e13⟩
 have E14 := below_ext E10 E10.size e13
 refine lw_v (.bool (decide (spotOk lx ly))) (dv_move (T rfl rfl)) ?_
 by_cases hb15 : spotOk lx ly
 · have H16 := (e13.blk n8.blk)
   refine lw_vy (.agg #[.int .i64 hx, .int .i64 hy]) (d := 7) rfl rfl (congrArg Value.bool (decide_eq_true hb15)) (dv_loads (l := [.int .i64 hx, .int .i64 hy]) agt25 sz25 (T rfl rfl) H16 rfl) ?_
   refine lw_ey (d := 7) rfl rfl (congrArg Value.bool (decide_eq_true hb15)) (oe_callf (vs := [.agg #[.int .i64 hx, .int .i64 hy]]) co12 (ar1 (T rfl rfl)) (iSpotOk_ok (x := hx) (y := hy)  ) ?_)
   rintro _ w17 ⟨rfl, e18⟩
   have E19 := below_ext E14 E14.size e18
   refine lw_v (.bool (decide (spotOk hx hy))) (dv_pick_t (T rfl (congrArg Value.bool (decide_eq_true hb15))) (T rfl rfl)) ?_
   refine lw_v (.bool (decide (spotOk hx hy))) (dv_move (T rfl rfl)) ?_
   by_cases hb20 : spotOk hx hy
   · refine lw_vy (.pointer (some ⟨b1, 0, none⟩)) (d := 11) rfl rfl (congrArg Value.bool (decide_eq_true hb20)) (dv_fieldAddr (a := ⟨b1, 0, none⟩) (a' := ⟨b1, 0, none⟩) fo25_0 (T rfl rfl) rfl) ?_
     have H21 := (e18.blk (e13.blk H11))
     refine lw_vy (.int .i64 lx) (d := 11) rfl rfl (congrArg Value.bool (decide_eq_true hb20)) (dv_load1 (b := b1) (o := 0) agt2 (T rfl rfl) H21 rfl) ?_
     refine lw_vy (.pointer (some ⟨b6, 0, none⟩)) (d := 11) rfl rfl (congrArg Value.bool (decide_eq_true hb20)) (dv_fieldAddr (a := ⟨b6, 0, none⟩) (a' := ⟨b6, 0, none⟩) fo25_0 (T rfl rfl) rfl) ?_
     have H22 := (e18.blk H16)
     refine lw_vy (.int .i64 hx) (d := 11) rfl rfl (congrArg Value.bool (decide_eq_true hb20)) (dv_load1 (b := b6) (o := 0) agt2 (T rfl rfl) H22 rfl) ?_
     refine lw_vy (.bool (decide (lx ≤ hx))) (d := 11) rfl rfl (congrArg Value.bool (decide_eq_true hb20)) (dv_leq (a := lx) (b := hx) (T rfl rfl) (T rfl rfl)) ?_
     refine lw_v (.bool (decide (lx ≤ hx))) (dv_pick_t (T rfl (congrArg Value.bool (decide_eq_true hb20))) (T rfl rfl)) ?_
     refine lw_v (.bool (decide (lx ≤ hx))) (dv_move (T rfl rfl)) ?_
     by_cases hb23 : lx ≤ hx
     · refine lw_vy (.pointer (some ⟨b1, 1, none⟩)) (d := 18) rfl rfl (congrArg Value.bool (decide_eq_true hb23)) (dv_fieldAddr (a := ⟨b1, 0, none⟩) (a' := ⟨b1, 1, none⟩) fo25_1 (T rfl rfl) rfl) ?_
       refine lw_vy (.int .i64 ly) (d := 18) rfl rfl (congrArg Value.bool (decide_eq_true hb23)) (dv_load1 (b := b1) (o := 1) agt2 (T rfl rfl) H21 rfl) ?_
       refine lw_vy (.pointer (some ⟨b6, 1, none⟩)) (d := 18) rfl rfl (congrArg Value.bool (decide_eq_true hb23)) (dv_fieldAddr (a := ⟨b6, 0, none⟩) (a' := ⟨b6, 1, none⟩) fo25_1 (T rfl rfl) rfl) ?_
       refine lw_vy (.int .i64 hy) (d := 18) rfl rfl (congrArg Value.bool (decide_eq_true hb23)) (dv_load1 (b := b6) (o := 1) agt2 (T rfl rfl) H22 rfl) ?_
       refine lw_vy (.bool (decide (ly ≤ hy))) (d := 18) rfl rfl (congrArg Value.bool (decide_eq_true hb23)) (dv_leq (a := ly) (b := hy) (T rfl rfl) (T rfl rfl)) ?_
       refine lw_v (.bool (decide (ly ≤ hy))) (dv_pick_t (T rfl (congrArg Value.bool (decide_eq_true hb23))) (T rfl rfl)) ?_
       refine lw_v (.bool (decide (ly ≤ hy))) (dv_assign (T rfl rfl)) ?_
       refine lw_nil ?_
       refine rk_ret Try.func40 (v := .bool (decide (ly ≤ hy))) (res1 Try.results40 (rv_tmp rfl rfl)) ⟨_, rfl, ?_⟩
       exact ⟨(vb (by unfold bxOk; grind)), E19⟩
     · refine lw_no (d := 18) rfl rfl (congrArg Value.bool (decide_eq_false hb23)) ?_
       refine lw_no (d := 18) rfl rfl (congrArg Value.bool (decide_eq_false hb23)) ?_
       refine lw_no (d := 18) rfl rfl (congrArg Value.bool (decide_eq_false hb23)) ?_
       refine lw_no (d := 18) rfl rfl (congrArg Value.bool (decide_eq_false hb23)) ?_
       refine lw_no (d := 18) rfl rfl (congrArg Value.bool (decide_eq_false hb23)) ?_
       refine lw_v (.bool false) (dv_pick_f (T rfl (congrArg Value.bool (decide_eq_false hb23))) C) ?_
       refine lw_v (.bool false) (dv_assign (T rfl rfl)) ?_
       refine lw_nil ?_
       refine rk_ret Try.func40 (v := .bool false) (res1 Try.results40 (rv_tmp rfl rfl)) ⟨_, rfl, ?_⟩
       exact ⟨(vf (by unfold bxOk; grind)), E19⟩
   · refine lw_no (d := 11) rfl rfl (congrArg Value.bool (decide_eq_false hb20)) ?_
     refine lw_no (d := 11) rfl rfl (congrArg Value.bool (decide_eq_false hb20)) ?_
     refine lw_no (d := 11) rfl rfl (congrArg Value.bool (decide_eq_false hb20)) ?_
     refine lw_no (d := 11) rfl rfl (congrArg Value.bool (decide_eq_false hb20)) ?_
     refine lw_no (d := 11) rfl rfl (congrArg Value.bool (decide_eq_false hb20)) ?_
     refine lw_v (.bool false) (dv_pick_f (T rfl (congrArg Value.bool (decide_eq_false hb20))) C) ?_
     refine lw_v (.bool false) (dv_move (T rfl rfl)) ?_
     refine lw_no (d := 18) rfl rfl (rfl) ?_
     refine lw_no (d := 18) rfl rfl (rfl) ?_
     refine lw_no (d := 18) rfl rfl (rfl) ?_
     refine lw_no (d := 18) rfl rfl (rfl) ?_
     refine lw_no (d := 18) rfl rfl (rfl) ?_
     refine lw_v (.bool false) (dv_pick_f (T rfl rfl) C) ?_
     refine lw_v (.bool false) (dv_assign (T rfl rfl)) ?_
     refine lw_nil ?_
     refine rk_ret Try.func40 (v := .bool false) (res1 Try.results40 (rv_tmp rfl rfl)) ⟨_, rfl, ?_⟩
     exact ⟨(vf (by unfold bxOk; grind)), E19⟩
 · refine lw_no (d := 7) rfl rfl (congrArg Value.bool (decide_eq_false hb15)) ?_
   refine lw_no (d := 7) rfl rfl (congrArg Value.bool (decide_eq_false hb15)) ?_
   refine lw_v (.bool false) (dv_pick_f (T rfl (congrArg Value.bool (decide_eq_false hb15))) C) ?_
   refine lw_v (.bool false) (dv_move (T rfl rfl)) ?_
   refine lw_no (d := 11) rfl rfl (rfl) ?_
   refine lw_no (d := 11) rfl rfl (rfl) ?_
   refine lw_no (d := 11) rfl rfl (rfl) ?_
   refine lw_no (d := 11) rfl rfl (rfl) ?_
   refine lw_no (d := 11) rfl rfl (rfl) ?_
   refine lw_v (.bool false) (dv_pick_f (T rfl rfl) C) ?_
   refine lw_v (.bool false) (dv_move (T rfl rfl)) ?_
   refine lw_no (d := 18) rfl rfl (rfl) ?_
   refine lw_no (d := 18) rfl rfl (rfl) ?_
   refine lw_no (d := 18) rfl rfl (rfl) ?_
   refine lw_no (d := 18) rfl rfl (rfl) ?_
   refine lw_no (d := 18) rfl rfl (rfl) ?_
   refine lw_v (.bool false) (dv_pick_f (T rfl rfl) C) ?_
   refine lw_v (.bool false) (dv_assign (T rfl rfl)) ?_
   refine lw_nil ?_
   refine rk_ret Try.func40 (v := .bool false) (res1 Try.results40 (rv_tmp rfl rfl)) ⟨_, rfl, ?_⟩
   exact ⟨(vf (by unfold bxOk; grind)), E14⟩
set_option maxHeartbeats 1000000 in
theorem l4Box_ok {w : World} {lx ly hx hy : Int}   : Ct Try.prog 43 [.agg #[.int .i64 lx, .int .i64 ly], .agg #[.int .i64 hx, .int .i64 hy]] w fun v w1 => v = .bool (decide (bxOk lx ly hx hy)) ∧ Ext w w1 := by
 refine ct_run (n := 25) Try.func43 rfl Try.ntmps43 rfl ?_
 have E0 : Below w.heap.size w w := Below.refl _ _
 refine rk_seq ?_
 refine rk_reg ?_
 refine lw_e (oe_box (v := .agg #[.int .i64 lx, .int .i64 ly]) (cs := #[.int .i64 lx, .int .i64 ly]) (T rfl rfl) rfl ?_)
 intro b1 w2 n3
 have N4 : w.heap.size ≤ b1 := n3.eq ▸ E0.size
 have E5 := below_ext E0 E0.size n3.ext
 refine lw_e (oe_box (v := .agg #[.int .i64 hx, .int .i64 hy]) (cs := #[.int .i64 hx, .int .i64 hy]) (T rfl rfl) rfl ?_)
 intro b6 w7 n8
 have N9 : w.heap.size ≤ b6 := n8.eq ▸ E5.size
 have : b1 < b6 := n8.eq ▸ lt_of_blk n3.blk
 have E10 := below_ext E5 E5.size n8.ext
 refine lw_v (.bool false) (dv_assign C) ?_
 refine lw_nil ?_
 refine rk_seq ?_
 refine rk_reg ?_
 have H11 := (n8.ext.blk n3.blk)
 refine lw_v (.agg #[.int .i64 lx, .int .i64 ly]) (dv_loads (l := [.int .i64 lx, .int .i64 ly]) agt25 sz25 (T rfl rfl) H11 rfl) ?_
 refine lw_e (oe_callf (vs := [.agg #[.int .i64 lx, .int .i64 ly]]) co88 (ar1 (T rfl rfl)) (sSpotOk_ok (x := lx) (y := ly)  ) ?_)
 rintro _ w12 ⟨rfl, e13⟩
 have E14 := below_ext E10 E10.size e13
 refine lw_v (.bool (decide (spotOk lx ly))) (dv_move (T rfl rfl)) ?_
 by_cases hb15 : spotOk lx ly
 · have H16 := (e13.blk n8.blk)
   refine lw_vy (.agg #[.int .i64 hx, .int .i64 hy]) (d := 7) rfl rfl (congrArg Value.bool (decide_eq_true hb15)) (dv_loads (l := [.int .i64 hx, .int .i64 hy]) agt25 sz25 (T rfl rfl) H16 rfl) ?_
   refine lw_ey (d := 7) rfl rfl (congrArg Value.bool (decide_eq_true hb15)) (oe_callf (vs := [.agg #[.int .i64 hx, .int .i64 hy]]) co88 (ar1 (T rfl rfl)) (sSpotOk_ok (x := hx) (y := hy)  ) ?_)
   rintro _ w17 ⟨rfl, e18⟩
   have E19 := below_ext E14 E14.size e18
   refine lw_v (.bool (decide (spotOk hx hy))) (dv_pick_t (T rfl (congrArg Value.bool (decide_eq_true hb15))) (T rfl rfl)) ?_
   refine lw_v (.bool (decide (spotOk hx hy))) (dv_move (T rfl rfl)) ?_
   by_cases hb20 : spotOk hx hy
   · refine lw_vy (.pointer (some ⟨b1, 0, none⟩)) (d := 11) rfl rfl (congrArg Value.bool (decide_eq_true hb20)) (dv_fieldAddr (a := ⟨b1, 0, none⟩) (a' := ⟨b1, 0, none⟩) fo25_0 (T rfl rfl) rfl) ?_
     have H21 := (e18.blk (e13.blk H11))
     refine lw_vy (.int .i64 lx) (d := 11) rfl rfl (congrArg Value.bool (decide_eq_true hb20)) (dv_load1 (b := b1) (o := 0) agt2 (T rfl rfl) H21 rfl) ?_
     refine lw_vy (.pointer (some ⟨b6, 0, none⟩)) (d := 11) rfl rfl (congrArg Value.bool (decide_eq_true hb20)) (dv_fieldAddr (a := ⟨b6, 0, none⟩) (a' := ⟨b6, 0, none⟩) fo25_0 (T rfl rfl) rfl) ?_
     have H22 := (e18.blk H16)
     refine lw_vy (.int .i64 hx) (d := 11) rfl rfl (congrArg Value.bool (decide_eq_true hb20)) (dv_load1 (b := b6) (o := 0) agt2 (T rfl rfl) H22 rfl) ?_
     refine lw_vy (.bool (decide (lx ≤ hx))) (d := 11) rfl rfl (congrArg Value.bool (decide_eq_true hb20)) (dv_leq (a := lx) (b := hx) (T rfl rfl) (T rfl rfl)) ?_
     refine lw_v (.bool (decide (lx ≤ hx))) (dv_pick_t (T rfl (congrArg Value.bool (decide_eq_true hb20))) (T rfl rfl)) ?_
     refine lw_v (.bool (decide (lx ≤ hx))) (dv_move (T rfl rfl)) ?_
     by_cases hb23 : lx ≤ hx
     · refine lw_vy (.pointer (some ⟨b1, 1, none⟩)) (d := 18) rfl rfl (congrArg Value.bool (decide_eq_true hb23)) (dv_fieldAddr (a := ⟨b1, 0, none⟩) (a' := ⟨b1, 1, none⟩) fo25_1 (T rfl rfl) rfl) ?_
       refine lw_vy (.int .i64 ly) (d := 18) rfl rfl (congrArg Value.bool (decide_eq_true hb23)) (dv_load1 (b := b1) (o := 1) agt2 (T rfl rfl) H21 rfl) ?_
       refine lw_vy (.pointer (some ⟨b6, 1, none⟩)) (d := 18) rfl rfl (congrArg Value.bool (decide_eq_true hb23)) (dv_fieldAddr (a := ⟨b6, 0, none⟩) (a' := ⟨b6, 1, none⟩) fo25_1 (T rfl rfl) rfl) ?_
       refine lw_vy (.int .i64 hy) (d := 18) rfl rfl (congrArg Value.bool (decide_eq_true hb23)) (dv_load1 (b := b6) (o := 1) agt2 (T rfl rfl) H22 rfl) ?_
       refine lw_vy (.bool (decide (ly ≤ hy))) (d := 18) rfl rfl (congrArg Value.bool (decide_eq_true hb23)) (dv_leq (a := ly) (b := hy) (T rfl rfl) (T rfl rfl)) ?_
       refine lw_v (.bool (decide (ly ≤ hy))) (dv_pick_t (T rfl (congrArg Value.bool (decide_eq_true hb23))) (T rfl rfl)) ?_
       refine lw_v (.bool (decide (ly ≤ hy))) (dv_assign (T rfl rfl)) ?_
       refine lw_nil ?_
       refine rk_ret Try.func43 (v := .bool (decide (ly ≤ hy))) (res1 Try.results43 (rv_tmp rfl rfl)) ⟨_, rfl, ?_⟩
       exact ⟨(vb (by unfold bxOk; grind)), E19⟩
     · refine lw_no (d := 18) rfl rfl (congrArg Value.bool (decide_eq_false hb23)) ?_
       refine lw_no (d := 18) rfl rfl (congrArg Value.bool (decide_eq_false hb23)) ?_
       refine lw_no (d := 18) rfl rfl (congrArg Value.bool (decide_eq_false hb23)) ?_
       refine lw_no (d := 18) rfl rfl (congrArg Value.bool (decide_eq_false hb23)) ?_
       refine lw_no (d := 18) rfl rfl (congrArg Value.bool (decide_eq_false hb23)) ?_
       refine lw_v (.bool false) (dv_pick_f (T rfl (congrArg Value.bool (decide_eq_false hb23))) C) ?_
       refine lw_v (.bool false) (dv_assign (T rfl rfl)) ?_
       refine lw_nil ?_
       refine rk_ret Try.func43 (v := .bool false) (res1 Try.results43 (rv_tmp rfl rfl)) ⟨_, rfl, ?_⟩
       exact ⟨(vf (by unfold bxOk; grind)), E19⟩
   · refine lw_no (d := 11) rfl rfl (congrArg Value.bool (decide_eq_false hb20)) ?_
     refine lw_no (d := 11) rfl rfl (congrArg Value.bool (decide_eq_false hb20)) ?_
     refine lw_no (d := 11) rfl rfl (congrArg Value.bool (decide_eq_false hb20)) ?_
     refine lw_no (d := 11) rfl rfl (congrArg Value.bool (decide_eq_false hb20)) ?_
     refine lw_no (d := 11) rfl rfl (congrArg Value.bool (decide_eq_false hb20)) ?_
     refine lw_v (.bool false) (dv_pick_f (T rfl (congrArg Value.bool (decide_eq_false hb20))) C) ?_
     refine lw_v (.bool false) (dv_move (T rfl rfl)) ?_
     refine lw_no (d := 18) rfl rfl (rfl) ?_
     refine lw_no (d := 18) rfl rfl (rfl) ?_
     refine lw_no (d := 18) rfl rfl (rfl) ?_
     refine lw_no (d := 18) rfl rfl (rfl) ?_
     refine lw_no (d := 18) rfl rfl (rfl) ?_
     refine lw_v (.bool false) (dv_pick_f (T rfl rfl) C) ?_
     refine lw_v (.bool false) (dv_assign (T rfl rfl)) ?_
     refine lw_nil ?_
     refine rk_ret Try.func43 (v := .bool false) (res1 Try.results43 (rv_tmp rfl rfl)) ⟨_, rfl, ?_⟩
     exact ⟨(vf (by unfold bxOk; grind)), E19⟩
 · refine lw_no (d := 7) rfl rfl (congrArg Value.bool (decide_eq_false hb15)) ?_
   refine lw_no (d := 7) rfl rfl (congrArg Value.bool (decide_eq_false hb15)) ?_
   refine lw_v (.bool false) (dv_pick_f (T rfl (congrArg Value.bool (decide_eq_false hb15))) C) ?_
   refine lw_v (.bool false) (dv_move (T rfl rfl)) ?_
   refine lw_no (d := 11) rfl rfl (rfl) ?_
   refine lw_no (d := 11) rfl rfl (rfl) ?_
   refine lw_no (d := 11) rfl rfl (rfl) ?_
   refine lw_no (d := 11) rfl rfl (rfl) ?_
   refine lw_no (d := 11) rfl rfl (rfl) ?_
   refine lw_v (.bool false) (dv_pick_f (T rfl rfl) C) ?_
   refine lw_v (.bool false) (dv_move (T rfl rfl)) ?_
   refine lw_no (d := 18) rfl rfl (rfl) ?_
   refine lw_no (d := 18) rfl rfl (rfl) ?_
   refine lw_no (d := 18) rfl rfl (rfl) ?_
   refine lw_no (d := 18) rfl rfl (rfl) ?_
   refine lw_no (d := 18) rfl rfl (rfl) ?_
   refine lw_v (.bool false) (dv_pick_f (T rfl rfl) C) ?_
   refine lw_v (.bool false) (dv_assign (T rfl rfl)) ?_
   refine lw_nil ?_
   refine rk_ret Try.func43 (v := .bool false) (res1 Try.results43 (rv_tmp rfl rfl)) ⟨_, rfl, ?_⟩
   exact ⟨(vf (by unfold bxOk; grind)), E14⟩
set_option maxRecDepth 100000 in
set_option maxHeartbeats 1000000 in
theorem imeetsBox_ok {w : World} {ax ay bx b_y lx ly hx hy : Int}  (hs_ : (-1000000 ≤ ax ∧ ax ≤ 1000000) ∧ (-1000000 ≤ ay ∧ ay ≤ 1000000) ∧ (-1000000 ≤ bx ∧ bx ≤ 1000000) ∧ (-1000000 ≤ b_y ∧ b_y ≤ 1000000)) (hl_ : (-1000000 ≤ lx ∧ lx ≤ 1000000) ∧ (-1000000 ≤ ly ∧ ly ≤ 1000000)) (hh_ : (-1000000 ≤ hx ∧ hx ≤ 1000000) ∧ (-1000000 ≤ hy ∧ hy ≤ 1000000)) (hx_ : ax ≤ bx) : Ct Try.prog 41 [.agg #[.int .i64 ax, .int .i64 ay, .int .i64 bx, .int .i64 b_y], .agg #[.int .i64 lx, .int .i64 ly], .agg #[.int .i64 hx, .int .i64 hy]] w fun v w1 => v = .bool (decide (mbV ax ay bx b_y lx ly hx hy)) ∧ Ext w w1 := by
 refine ct_run (n := 95) Try.func41 rfl Try.ntmps41 rfl ?_
 have E0 : Below w.heap.size w w := Below.refl _ _
 refine rk_seq ?_
 refine rk_reg ?_
 refine lw_e (oe_box (v := .agg #[.int .i64 ax, .int .i64 ay, .int .i64 bx, .int .i64 b_y]) (cs := #[.int .i64 ax, .int .i64 ay, .int .i64 bx, .int .i64 b_y]) (T rfl rfl) rfl ?_)
 intro b1 w2 n3
 have N4 : w.heap.size ≤ b1 := n3.eq ▸ E0.size
 have E5 := below_ext E0 E0.size n3.ext
 refine lw_e (oe_box (v := .agg #[.int .i64 lx, .int .i64 ly]) (cs := #[.int .i64 lx, .int .i64 ly]) (T rfl rfl) rfl ?_)
 intro b6 w7 n8
 have N9 : w.heap.size ≤ b6 := n8.eq ▸ E5.size
 have : b1 < b6 := n8.eq ▸ lt_of_blk n3.blk
 have E10 := below_ext E5 E5.size n8.ext
 refine lw_e (oe_box (v := .agg #[.int .i64 hx, .int .i64 hy]) (cs := #[.int .i64 hx, .int .i64 hy]) (T rfl rfl) rfl ?_)
 intro b11 w12 n13
 have N14 : w.heap.size ≤ b11 := n13.eq ▸ E10.size
 have : b6 < b11 := n13.eq ▸ lt_of_blk n8.blk
 have E15 := below_ext E10 E10.size n13.ext
 refine lw_v (.bool false) (dv_assign C) ?_
 refine lw_nil ?_
 refine rk_seq ?_
 refine rk_seq ?_
 refine rk_reg ?_
 refine lw_v (.pointer (some ⟨b1, 2, none⟩)) (dv_fieldAddr (a := ⟨b1, 0, none⟩) (a' := ⟨b1, 2, none⟩) fo27_1 (T rfl rfl) rfl) ?_
 refine lw_v (.pointer (some ⟨b1, 2, none⟩)) (dv_fieldAddr (a := ⟨b1, 2, none⟩) (a' := ⟨b1, 2, none⟩) fo25_0 (T rfl rfl) rfl) ?_
 have H16 := (n13.ext.blk (n8.ext.blk n3.blk))
 refine lw_v (.int .i64 bx) (dv_load1 (b := b1) (o := 2) agt2 (T rfl rfl) H16 rfl) ?_
 refine lw_v (.pointer (some ⟨b6, 0, none⟩)) (dv_fieldAddr (a := ⟨b6, 0, none⟩) (a' := ⟨b6, 0, none⟩) fo25_0 (T rfl rfl) rfl) ?_
 have H17 := (n13.ext.blk n8.blk)
 refine lw_v (.int .i64 lx) (dv_load1 (b := b6) (o := 0) agt2 (T rfl rfl) H17 rfl) ?_
 refine lw_v (.bool (decide (bx < lx))) (dv_lss (a := bx) (b := lx) (T rfl rfl) (T rfl rfl)) ?_
 refine lw_v (.bool (decide (bx < lx))) (dv_move (T rfl rfl)) ?_
 by_cases hb18 : bx < lx
 · refine lw_no (d := 20) rfl rfl (congrArg Value.bool (decide_eq_true hb18)) ?_
   refine lw_no (d := 20) rfl rfl (congrArg Value.bool (decide_eq_true hb18)) ?_
   refine lw_no (d := 20) rfl rfl (congrArg Value.bool (decide_eq_true hb18)) ?_
   refine lw_no (d := 20) rfl rfl (congrArg Value.bool (decide_eq_true hb18)) ?_
   refine lw_no (d := 20) rfl rfl (congrArg Value.bool (decide_eq_true hb18)) ?_
   refine lw_no (d := 20) rfl rfl (congrArg Value.bool (decide_eq_true hb18)) ?_
   refine lw_v (.bool true) (dv_pick_t (T rfl (congrArg Value.bool (decide_eq_true hb18))) C) ?_
   refine lw_v (.bool true) (dv_move (T rfl rfl)) ?_
   refine lw_no (d := 28) rfl rfl (rfl) ?_
   refine lw_no (d := 28) rfl rfl (rfl) ?_
   refine lw_no (d := 28) rfl rfl (rfl) ?_
   refine lw_no (d := 28) rfl rfl (rfl) ?_
   refine lw_no (d := 28) rfl rfl (rfl) ?_
   refine lw_no (d := 28) rfl rfl (rfl) ?_
   refine lw_no (d := 28) rfl rfl (rfl) ?_
   refine lw_no (d := 28) rfl rfl (rfl) ?_
   refine lw_no (d := 28) rfl rfl (rfl) ?_
   refine lw_no (d := 28) rfl rfl (rfl) ?_
   refine lw_v (.bool true) (dv_pick_t (T rfl rfl) C) ?_
   refine lw_v (.bool true) (dv_move (T rfl rfl)) ?_
   refine lw_no (d := 40) rfl rfl (rfl) ?_
   refine lw_no (d := 40) rfl rfl (rfl) ?_
   refine lw_no (d := 40) rfl rfl (rfl) ?_
   refine lw_no (d := 40) rfl rfl (rfl) ?_
   refine lw_no (d := 40) rfl rfl (rfl) ?_
   refine lw_no (d := 40) rfl rfl (rfl) ?_
   refine lw_no (d := 40) rfl rfl (rfl) ?_
   refine lw_no (d := 40) rfl rfl (rfl) ?_
   refine lw_no (d := 40) rfl rfl (rfl) ?_
   refine lw_no (d := 40) rfl rfl (rfl) ?_
   refine lw_v (.bool true) (dv_pick_t (T rfl rfl) C) ?_
   refine lw_nil ?_
   refine rk_ct (T rfl rfl) ?_
   refine rk_seq ?_
   refine rk_reg ?_
   refine lw_v (.bool false) (dv_assign C) ?_
   refine lw_nil ?_
   refine rk_ret Try.func41 (v := .bool false) (res1 Try.results41 (rv_tmp rfl rfl)) ⟨_, rfl, ?_⟩
   have e1 := @mx_lt ay b_y ly; have e2 := @lt_mn ay b_y hy; have e3 : crs = crossI := rfl
   have e4 := @mn4 (crossI ax ay bx b_y lx ly) (crossI ax ay bx b_y lx hy) (crossI ax ay bx b_y hx ly) (crossI ax ay bx b_y hx hy); have e5 := @mx4 (crossI ax ay bx b_y lx ly) (crossI ax ay bx b_y lx hy) (crossI ax ay bx b_y hx ly) (crossI ax ay bx b_y hx hy)
   exact ⟨(vf (by unfold mbV; rw [e3]; omega)), E15⟩
 · refine lw_vy (.pointer (some ⟨b1, 0, none⟩)) (d := 20) rfl rfl (congrArg Value.bool (decide_eq_false hb18)) (dv_fieldAddr (a := ⟨b1, 0, none⟩) (a' := ⟨b1, 0, none⟩) fo27_0 (T rfl rfl) rfl) ?_
   refine lw_vy (.pointer (some ⟨b1, 0, none⟩)) (d := 20) rfl rfl (congrArg Value.bool (decide_eq_false hb18)) (dv_fieldAddr (a := ⟨b1, 0, none⟩) (a' := ⟨b1, 0, none⟩) fo25_0 (T rfl rfl) rfl) ?_
   refine lw_vy (.int .i64 ax) (d := 20) rfl rfl (congrArg Value.bool (decide_eq_false hb18)) (dv_load1 (b := b1) (o := 0) agt2 (T rfl rfl) H16 rfl) ?_
   refine lw_vy (.pointer (some ⟨b11, 0, none⟩)) (d := 20) rfl rfl (congrArg Value.bool (decide_eq_false hb18)) (dv_fieldAddr (a := ⟨b11, 0, none⟩) (a' := ⟨b11, 0, none⟩) fo25_0 (T rfl rfl) rfl) ?_
   refine lw_vy (.int .i64 hx) (d := 20) rfl rfl (congrArg Value.bool (decide_eq_false hb18)) (dv_load1 (b := b11) (o := 0) agt2 (T rfl rfl) n13.blk rfl) ?_
   refine lw_vy (.bool (decide (hx < ax))) (d := 20) rfl rfl (congrArg Value.bool (decide_eq_false hb18)) (dv_gtr (a := ax) (b := hx) (T rfl rfl) (T rfl rfl)) ?_
   refine lw_v (.bool (decide (hx < ax))) (dv_pick_f (T rfl (congrArg Value.bool (decide_eq_false hb18))) (T rfl rfl)) ?_
   refine lw_v (.bool (decide (hx < ax))) (dv_move (T rfl rfl)) ?_
   by_cases hb19 : hx < ax
   · refine lw_no (d := 28) rfl rfl (congrArg Value.bool (decide_eq_true hb19)) ?_
     refine lw_no (d := 28) rfl rfl (congrArg Value.bool (decide_eq_true hb19)) ?_
     refine lw_no (d := 28) rfl rfl (congrArg Value.bool (decide_eq_true hb19)) ?_
     refine lw_no (d := 28) rfl rfl (congrArg Value.bool (decide_eq_true hb19)) ?_
     refine lw_no (d := 28) rfl rfl (congrArg Value.bool (decide_eq_true hb19)) ?_
     refine lw_no (d := 28) rfl rfl (congrArg Value.bool (decide_eq_true hb19)) ?_
     refine lw_no (d := 28) rfl rfl (congrArg Value.bool (decide_eq_true hb19)) ?_
     refine lw_no (d := 28) rfl rfl (congrArg Value.bool (decide_eq_true hb19)) ?_
     refine lw_no (d := 28) rfl rfl (congrArg Value.bool (decide_eq_true hb19)) ?_
     refine lw_no (d := 28) rfl rfl (congrArg Value.bool (decide_eq_true hb19)) ?_
     refine lw_v (.bool true) (dv_pick_t (T rfl (congrArg Value.bool (decide_eq_true hb19))) C) ?_
     refine lw_v (.bool true) (dv_move (T rfl rfl)) ?_
     refine lw_no (d := 40) rfl rfl (rfl) ?_
     refine lw_no (d := 40) rfl rfl (rfl) ?_
     refine lw_no (d := 40) rfl rfl (rfl) ?_
     refine lw_no (d := 40) rfl rfl (rfl) ?_
     refine lw_no (d := 40) rfl rfl (rfl) ?_
     refine lw_no (d := 40) rfl rfl (rfl) ?_
     refine lw_no (d := 40) rfl rfl (rfl) ?_
     refine lw_no (d := 40) rfl rfl (rfl) ?_
     refine lw_no (d := 40) rfl rfl (rfl) ?_
     refine lw_no (d := 40) rfl rfl (rfl) ?_
     refine lw_v (.bool true) (dv_pick_t (T rfl rfl) C) ?_
     refine lw_nil ?_
     refine rk_ct (T rfl rfl) ?_
     refine rk_seq ?_
     refine rk_reg ?_
     refine lw_v (.bool false) (dv_assign C) ?_
     refine lw_nil ?_
     refine rk_ret Try.func41 (v := .bool false) (res1 Try.results41 (rv_tmp rfl rfl)) ⟨_, rfl, ?_⟩
     have e1 := @mx_lt ay b_y ly; have e2 := @lt_mn ay b_y hy; have e3 : crs = crossI := rfl
     have e4 := @mn4 (crossI ax ay bx b_y lx ly) (crossI ax ay bx b_y lx hy) (crossI ax ay bx b_y hx ly) (crossI ax ay bx b_y hx hy); have e5 := @mx4 (crossI ax ay bx b_y lx ly) (crossI ax ay bx b_y lx hy) (crossI ax ay bx b_y hx ly) (crossI ax ay bx b_y hx hy)
     exact ⟨(vf (by unfold mbV; rw [e3]; omega)), E15⟩
   · refine lw_vy (.pointer (some ⟨b1, 0, none⟩)) (d := 28) rfl rfl (congrArg Value.bool (decide_eq_false hb19)) (dv_fieldAddr (a := ⟨b1, 0, none⟩) (a' := ⟨b1, 0, none⟩) fo27_0 (T rfl rfl) rfl) ?_
     refine lw_vy (.pointer (some ⟨b1, 1, none⟩)) (d := 28) rfl rfl (congrArg Value.bool (decide_eq_false hb19)) (dv_fieldAddr (a := ⟨b1, 0, none⟩) (a' := ⟨b1, 1, none⟩) fo25_1 (T rfl rfl) rfl) ?_
     refine lw_vy (.int .i64 ay) (d := 28) rfl rfl (congrArg Value.bool (decide_eq_false hb19)) (dv_load1 (b := b1) (o := 1) agt2 (T rfl rfl) H16 rfl) ?_
     refine lw_vy (.pointer (some ⟨b1, 2, none⟩)) (d := 28) rfl rfl (congrArg Value.bool (decide_eq_false hb19)) (dv_fieldAddr (a := ⟨b1, 0, none⟩) (a' := ⟨b1, 2, none⟩) fo27_1 (T rfl rfl) rfl) ?_
     refine lw_vy (.pointer (some ⟨b1, 3, none⟩)) (d := 28) rfl rfl (congrArg Value.bool (decide_eq_false hb19)) (dv_fieldAddr (a := ⟨b1, 2, none⟩) (a' := ⟨b1, 3, none⟩) fo25_1 (T rfl rfl) rfl) ?_
     refine lw_vy (.int .i64 b_y) (d := 28) rfl rfl (congrArg Value.bool (decide_eq_false hb19)) (dv_load1 (b := b1) (o := 3) agt2 (T rfl rfl) H16 rfl) ?_
     refine lw_vy (.int .i64 (mx ay b_y)) (d := 28) rfl rfl (congrArg Value.bool (decide_eq_false hb19)) (dv_max (a := ay) (b := b_y) (T rfl rfl) (T rfl rfl)) ?_
     refine lw_vy (.pointer (some ⟨b6, 1, none⟩)) (d := 28) rfl rfl (congrArg Value.bool (decide_eq_false hb19)) (dv_fieldAddr (a := ⟨b6, 0, none⟩) (a' := ⟨b6, 1, none⟩) fo25_1 (T rfl rfl) rfl) ?_
     refine lw_vy (.int .i64 ly) (d := 28) rfl rfl (congrArg Value.bool (decide_eq_false hb19)) (dv_load1 (b := b6) (o := 1) agt2 (T rfl rfl) H17 rfl) ?_
     refine lw_vy (.bool (decide ((mx ay b_y) < ly))) (d := 28) rfl rfl (congrArg Value.bool (decide_eq_false hb19)) (dv_lss (a := mx ay b_y) (b := ly) (T rfl rfl) (T rfl rfl)) ?_
     refine lw_v (.bool (decide ((mx ay b_y) < ly))) (dv_pick_f (T rfl (congrArg Value.bool (decide_eq_false hb19))) (T rfl rfl)) ?_
     refine lw_v (.bool (decide ((mx ay b_y) < ly))) (dv_move (T rfl rfl)) ?_
     by_cases hb20 : (mx ay b_y) < ly
     · refine lw_no (d := 40) rfl rfl (congrArg Value.bool (decide_eq_true hb20)) ?_
       refine lw_no (d := 40) rfl rfl (congrArg Value.bool (decide_eq_true hb20)) ?_
       refine lw_no (d := 40) rfl rfl (congrArg Value.bool (decide_eq_true hb20)) ?_
       refine lw_no (d := 40) rfl rfl (congrArg Value.bool (decide_eq_true hb20)) ?_
       refine lw_no (d := 40) rfl rfl (congrArg Value.bool (decide_eq_true hb20)) ?_
       refine lw_no (d := 40) rfl rfl (congrArg Value.bool (decide_eq_true hb20)) ?_
       refine lw_no (d := 40) rfl rfl (congrArg Value.bool (decide_eq_true hb20)) ?_
       refine lw_no (d := 40) rfl rfl (congrArg Value.bool (decide_eq_true hb20)) ?_
       refine lw_no (d := 40) rfl rfl (congrArg Value.bool (decide_eq_true hb20)) ?_
       refine lw_no (d := 40) rfl rfl (congrArg Value.bool (decide_eq_true hb20)) ?_
       refine lw_v (.bool true) (dv_pick_t (T rfl (congrArg Value.bool (decide_eq_true hb20))) C) ?_
       refine lw_nil ?_
       refine rk_ct (T rfl rfl) ?_
       refine rk_seq ?_
       refine rk_reg ?_
       refine lw_v (.bool false) (dv_assign C) ?_
       refine lw_nil ?_
       refine rk_ret Try.func41 (v := .bool false) (res1 Try.results41 (rv_tmp rfl rfl)) ⟨_, rfl, ?_⟩
       have e1 := @mx_lt ay b_y ly; have e2 := @lt_mn ay b_y hy; have e3 : crs = crossI := rfl
       have e4 := @mn4 (crossI ax ay bx b_y lx ly) (crossI ax ay bx b_y lx hy) (crossI ax ay bx b_y hx ly) (crossI ax ay bx b_y hx hy); have e5 := @mx4 (crossI ax ay bx b_y lx ly) (crossI ax ay bx b_y lx hy) (crossI ax ay bx b_y hx ly) (crossI ax ay bx b_y hx hy)
       exact ⟨(vf (by unfold mbV; rw [e3]; omega)), E15⟩
     · refine lw_vy (.pointer (some ⟨b1, 0, none⟩)) (d := 40) rfl rfl (congrArg Value.bool (decide_eq_false hb20)) (dv_fieldAddr (a := ⟨b1, 0, none⟩) (a' := ⟨b1, 0, none⟩) fo27_0 (T rfl rfl) rfl) ?_
       refine lw_vy (.pointer (some ⟨b1, 1, none⟩)) (d := 40) rfl rfl (congrArg Value.bool (decide_eq_false hb20)) (dv_fieldAddr (a := ⟨b1, 0, none⟩) (a' := ⟨b1, 1, none⟩) fo25_1 (T rfl rfl) rfl) ?_
       refine lw_vy (.int .i64 ay) (d := 40) rfl rfl (congrArg Value.bool (decide_eq_false hb20)) (dv_load1 (b := b1) (o := 1) agt2 (T rfl rfl) H16 rfl) ?_
       refine lw_vy (.pointer (some ⟨b1, 2, none⟩)) (d := 40) rfl rfl (congrArg Value.bool (decide_eq_false hb20)) (dv_fieldAddr (a := ⟨b1, 0, none⟩) (a' := ⟨b1, 2, none⟩) fo27_1 (T rfl rfl) rfl) ?_
       refine lw_vy (.pointer (some ⟨b1, 3, none⟩)) (d := 40) rfl rfl (congrArg Value.bool (decide_eq_false hb20)) (dv_fieldAddr (a := ⟨b1, 2, none⟩) (a' := ⟨b1, 3, none⟩) fo25_1 (T rfl rfl) rfl) ?_
       refine lw_vy (.int .i64 b_y) (d := 40) rfl rfl (congrArg Value.bool (decide_eq_false hb20)) (dv_load1 (b := b1) (o := 3) agt2 (T rfl rfl) H16 rfl) ?_
       refine lw_vy (.int .i64 (mn ay b_y)) (d := 40) rfl rfl (congrArg Value.bool (decide_eq_false hb20)) (dv_min (a := ay) (b := b_y) (T rfl rfl) (T rfl rfl)) ?_
       refine lw_vy (.pointer (some ⟨b11, 1, none⟩)) (d := 40) rfl rfl (congrArg Value.bool (decide_eq_false hb20)) (dv_fieldAddr (a := ⟨b11, 0, none⟩) (a' := ⟨b11, 1, none⟩) fo25_1 (T rfl rfl) rfl) ?_
       refine lw_vy (.int .i64 hy) (d := 40) rfl rfl (congrArg Value.bool (decide_eq_false hb20)) (dv_load1 (b := b11) (o := 1) agt2 (T rfl rfl) n13.blk rfl) ?_
       refine lw_vy (.bool (decide (hy < (mn ay b_y)))) (d := 40) rfl rfl (congrArg Value.bool (decide_eq_false hb20)) (dv_gtr (a := mn ay b_y) (b := hy) (T rfl rfl) (T rfl rfl)) ?_
       refine lw_v (.bool (decide (hy < (mn ay b_y)))) (dv_pick_f (T rfl (congrArg Value.bool (decide_eq_false hb20))) (T rfl rfl)) ?_
       refine lw_nil ?_
       by_cases hb21 : hy < (mn ay b_y)
       · refine rk_ct (T rfl (congrArg Value.bool (decide_eq_true hb21))) ?_
         refine rk_seq ?_
         refine rk_reg ?_
         refine lw_v (.bool false) (dv_assign C) ?_
         refine lw_nil ?_
         refine rk_ret Try.func41 (v := .bool false) (res1 Try.results41 (rv_tmp rfl rfl)) ⟨_, rfl, ?_⟩
         have e1 := @mx_lt ay b_y ly; have e2 := @lt_mn ay b_y hy; have e3 : crs = crossI := rfl
         have e4 := @mn4 (crossI ax ay bx b_y lx ly) (crossI ax ay bx b_y lx hy) (crossI ax ay bx b_y hx ly) (crossI ax ay bx b_y hx hy); have e5 := @mx4 (crossI ax ay bx b_y lx ly) (crossI ax ay bx b_y lx hy) (crossI ax ay bx b_y hx ly) (crossI ax ay bx b_y hx hy)
         exact ⟨(vf (by unfold mbV; rw [e3]; omega)), E15⟩
       · refine rk_cf (T rfl (congrArg Value.bool (decide_eq_false hb21))) ?_
         refine rk_skip ?_
         refine rk_seq ?_
         refine rk_reg ?_
         refine lw_v (.int .i64 1) (dv_assign C) ?_
         refine lw_v (.int .i64 (-1)) (dv_assign C) ?_
         refine lw_nil ?_
         refine rk_seq ?_
         refine rk_seq ?_
         refine rk_reg ?_
         refine lw_v (.pointer (some ⟨b6, 0, none⟩)) (dv_fieldAddr (a := ⟨b6, 0, none⟩) (a' := ⟨b6, 0, none⟩) fo25_0 (T rfl rfl) rfl) ?_
         refine lw_v (.int .i64 lx) (dv_load1 (b := b6) (o := 0) agt2 (T rfl rfl) H17 rfl) ?_
         refine lw_v (.pointer (some ⟨b11, 0, none⟩)) (dv_fieldAddr (a := ⟨b11, 0, none⟩) (a' := ⟨b11, 0, none⟩) fo25_0 (T rfl rfl) rfl) ?_
         refine lw_v (.int .i64 hx) (dv_load1 (b := b11) (o := 0) agt2 (T rfl rfl) n13.blk rfl) ?_
         refine lw_e (oe_buildSlice (pv := [(0, .int .i64 lx), (1, .int .i64 hx)]) (init := [.int .i64 0, .int .i64 0]) (l := [.int .i64 lx, .int .i64 hx]) us50 sz2 rfl rfl zc2 (by kernel_rfl) ⟨rfl, (T rfl rfl), ⟨rfl, (T rfl rfl), trivial⟩⟩ rfl ?_)
         intro b22 w23 n24
         have N25 : w.heap.size ≤ b22 := n24.eq ▸ E15.size
         have : b11 < b22 := n24.eq ▸ lt_of_blk n13.blk
         have E26 := below_ext E15 E15.size n24.ext
         refine lw_v (.int .i64 2) (dv_len (ad := some ⟨b22, 0, none⟩) (l := 2) (c := 2) us50 (T rfl rfl)) ?_
         refine lw_v (.int .i64 0) (dv_move C) ?_
         refine lw_nil ?_
         refine rk_block ?_
         refine rk_unroll ?_
         refine rk_seq ?_
         refine rk_reg ?_
         refine lw_v (.bool (decide (((0 : Int) < 2 : Prop)))) (dv_lss (a := 0) (b := 2) (T rfl rfl) (T rfl rfl)) ?_
         refine lw_nil ?_
         refine rk_seq ?_
         refine rk_ct (T rfl (rfl)) ?_
         refine rk_skip ?_
         refine rk_seq ?_
         refine rk_block ?_
         refine rk_seq ?_
         refine rk_reg ?_
         refine lw_v (.pointer (some ⟨b22, 0, none⟩)) (dv_indexAddr (a := ⟨b22, 0, none⟩) (a' := ⟨b22, 0, none⟩) (l := 2) (c := 2) (j := 0) us50 sz2 (T rfl rfl) (T rfl rfl) (by decide) (by decide) rfl) ?_
         refine lw_v (.int .i64 lx) (dv_load1 (b := b22) (o := 0) agt2 (T rfl rfl) n24.blk rfl) ?_
         refine lw_v (.int .i64 lx) (dv_assign (T rfl rfl)) ?_
         refine lw_nil ?_
         refine rk_seq ?_
         refine rk_reg ?_
         refine lw_v (.pointer (some ⟨b6, 1, none⟩)) (dv_fieldAddr (a := ⟨b6, 0, none⟩) (a' := ⟨b6, 1, none⟩) fo25_1 (T rfl rfl) rfl) ?_
         have H27 := (n24.ext.blk H17)
         refine lw_v (.int .i64 ly) (dv_load1 (b := b6) (o := 1) agt2 (T rfl rfl) H27 rfl) ?_
         refine lw_v (.pointer (some ⟨b11, 1, none⟩)) (dv_fieldAddr (a := ⟨b11, 0, none⟩) (a' := ⟨b11, 1, none⟩) fo25_1 (T rfl rfl) rfl) ?_
         have H28 := (n24.ext.blk n13.blk)
         refine lw_v (.int .i64 hy) (dv_load1 (b := b11) (o := 1) agt2 (T rfl rfl) H28 rfl) ?_
         refine lw_e (oe_buildSlice (pv := [(0, .int .i64 ly), (1, .int .i64 hy)]) (init := [.int .i64 0, .int .i64 0]) (l := [.int .i64 ly, .int .i64 hy]) us50 sz2 rfl rfl zc2 (by kernel_rfl) ⟨rfl, (T rfl rfl), ⟨rfl, (T rfl rfl), trivial⟩⟩ rfl ?_)
         intro b29 w30 n31
         have N32 : w.heap.size ≤ b29 := n31.eq ▸ E26.size
         have : b22 < b29 := n31.eq ▸ lt_of_blk n24.blk
         have E33 := below_ext E26 E26.size n31.ext
         refine lw_v (.int .i64 2) (dv_len (ad := some ⟨b29, 0, none⟩) (l := 2) (c := 2) us50 (T rfl rfl)) ?_
         refine lw_v (.int .i64 0) (dv_move C) ?_
         refine lw_nil ?_
         refine rk_block ?_
         refine rk_unroll ?_
         refine rk_seq ?_
         refine rk_reg ?_
         refine lw_v (.bool (decide (((0 : Int) < 2 : Prop)))) (dv_lss (a := 0) (b := 2) (T rfl rfl) (T rfl rfl)) ?_
         refine lw_nil ?_
         refine rk_seq ?_
         refine rk_ct (T rfl (rfl)) ?_
         refine rk_skip ?_
         refine rk_seq ?_
         refine rk_block ?_
         refine rk_seq ?_
         refine rk_reg ?_
         refine lw_v (.pointer (some ⟨b29, 0, none⟩)) (dv_indexAddr (a := ⟨b29, 0, none⟩) (a' := ⟨b29, 0, none⟩) (l := 2) (c := 2) (j := 0) us50 sz2 (T rfl rfl) (T rfl rfl) (by decide) (by decide) rfl) ?_
         refine lw_v (.int .i64 ly) (dv_load1 (b := b29) (o := 0) agt2 (T rfl rfl) n31.blk rfl) ?_
         refine lw_v (.int .i64 ly) (dv_assign (T rfl rfl)) ?_
         refine lw_nil ?_
         refine rk_seq ?_
         refine rk_reg ?_
         refine lw_v (.pointer (some ⟨b1, 0, none⟩)) (dv_fieldAddr (a := ⟨b1, 0, none⟩) (a' := ⟨b1, 0, none⟩) fo27_0 (T rfl rfl) rfl) ?_
         have H34 := (n31.ext.blk (n24.ext.blk H16))
         refine lw_v (.agg #[.int .i64 ax, .int .i64 ay]) (dv_loads (l := [.int .i64 ax, .int .i64 ay]) agt25 sz25 (T rfl rfl) H34 rfl) ?_
         refine lw_v (.pointer (some ⟨b1, 2, none⟩)) (dv_fieldAddr (a := ⟨b1, 0, none⟩) (a' := ⟨b1, 2, none⟩) fo27_1 (T rfl rfl) rfl) ?_
         refine lw_v (.agg #[.int .i64 bx, .int .i64 b_y]) (dv_loads (l := [.int .i64 bx, .int .i64 b_y]) agt25 sz25 (T rfl rfl) H34 rfl) ?_
         refine lw_v (.int .i64 lx) (dv_move (T rfl rfl)) ?_
         refine lw_v (.int .i64 ly) (dv_move (T rfl rfl)) ?_
         refine lw_v (.agg #[.int .i64 lx, .int .i64 ly]) (dv_build (pv := [(0, .int .i64 lx), (1, .int .i64 ly)]) (l := [.int .i64 lx, .int .i64 ly]) zc25 pl25 ⟨rfl, (T rfl rfl), ⟨rfl, (T rfl rfl), trivial⟩⟩ rfl) ?_
         refine lw_e (oe_callf (vs := [.agg #[.int .i64 ax, .int .i64 ay], .agg #[.int .i64 bx, .int .i64 b_y], .agg #[.int .i64 lx, .int .i64 ly]]) co87 (ar3 (T rfl rfl) (T rfl rfl) (T rfl rfl)) (cross_ok (ax := ax) (ay := ay) (bx := bx) (b_y := b_y) (px := lx) (py := ly)  (by omega) (by omega)) ?_)
         rintro _ w35 ⟨rfl, e36⟩
         have E37 := below_ext E33 E33.size e36
         have := cross_rg (by omega : (-1000000 ≤ ax ∧ ax ≤ 1000000) ∧ (-1000000 ≤ ay ∧ ay ≤ 1000000) ∧ (-1000000 ≤ bx ∧ bx ≤ 1000000) ∧ (-1000000 ≤ b_y ∧ b_y ≤ 1000000)) (by omega : (-1000000 ≤ lx ∧ lx ≤ 1000000) ∧ (-1000000 ≤ ly ∧ ly ≤ 1000000))
         refine lw_e (oe_callf (vs := [.int .i64 (crossI ax ay bx b_y lx ly)]) co79 (ar1 (T rfl rfl)) (isign_ok (n := crossI ax ay bx b_y lx ly)  ) ?_)
         rintro _ w38 ⟨rfl, e39⟩
         have E40 := below_ext E37 E37.size e39
         have := sgnI_rg (crossI ax ay bx b_y lx ly)
         refine lw_v (.int .i64 (sgnI (crossI ax ay bx b_y lx ly))) (dv_assign (T rfl rfl)) ?_
         refine lw_nil ?_
         refine rk_reg ?_
         refine lw_v (.int .i64 1) (dv_move (T rfl rfl)) ?_
         refine lw_v (.int .i64 (sgnI (crossI ax ay bx b_y lx ly))) (dv_move (T rfl rfl)) ?_
         refine lw_v (.int .i64 (mn 1 (sgnI (crossI ax ay bx b_y lx ly)))) (dv_min (a := 1) (b := sgnI (crossI ax ay bx b_y lx ly)) (T rfl rfl) (T rfl rfl)) ?_
         refine lw_v (.int .i64 (-1)) (dv_move (T rfl rfl)) ?_
         refine lw_v (.int .i64 (sgnI (crossI ax ay bx b_y lx ly))) (dv_move (T rfl rfl)) ?_
         refine lw_v (.int .i64 (mx (-1) (sgnI (crossI ax ay bx b_y lx ly)))) (dv_max (a := -1) (b := sgnI (crossI ax ay bx b_y lx ly)) (T rfl rfl) (T rfl rfl)) ?_
         refine lw_v (.int .i64 (mn 1 (sgnI (crossI ax ay bx b_y lx ly)))) (dv_assign (T rfl rfl)) ?_
         refine lw_v (.int .i64 (mx (-1) (sgnI (crossI ax ay bx b_y lx ly)))) (dv_assign (T rfl rfl)) ?_
         refine lw_nil ?_
         refine rk_inBlock ?_
         refine rk_reg ?_
         refine lw_v (.int .i64 1) (dv_add (a := 0) (b := 1) (z := 1) (T rfl rfl) C (by decide)) ?_
         refine lw_v (.int .i64 1) (dv_move (T rfl rfl)) ?_
         refine lw_nil ?_
         refine rk_inLoop ?_
         refine rk_seq ?_
         refine rk_reg ?_
         refine lw_v (.bool (decide (((1 : Int) < 2 : Prop)))) (dv_lss (a := 1) (b := 2) (T rfl rfl) (T rfl rfl)) ?_
         refine lw_nil ?_
         refine rk_seq ?_
         refine rk_ct (T rfl (rfl)) ?_
         refine rk_skip ?_
         refine rk_seq ?_
         refine rk_block ?_
         refine rk_seq ?_
         refine rk_reg ?_
         refine lw_v (.pointer (some ⟨b29, 1, none⟩)) (dv_indexAddr (a := ⟨b29, 0, none⟩) (a' := ⟨b29, 1, none⟩) (l := 2) (c := 2) (j := 1) us50 sz2 (T rfl rfl) (T rfl rfl) (by decide) (by decide) rfl) ?_
         have H41 := (e39.blk (e36.blk n31.blk))
         refine lw_v (.int .i64 hy) (dv_load1 (b := b29) (o := 1) agt2 (T rfl rfl) H41 rfl) ?_
         refine lw_v (.int .i64 hy) (dv_assign (T rfl rfl)) ?_
         refine lw_nil ?_
         refine rk_seq ?_
         refine rk_reg ?_
         refine lw_v (.pointer (some ⟨b1, 0, none⟩)) (dv_fieldAddr (a := ⟨b1, 0, none⟩) (a' := ⟨b1, 0, none⟩) fo27_0 (T rfl rfl) rfl) ?_
         have H42 := (e39.blk (e36.blk H34))
         refine lw_v (.agg #[.int .i64 ax, .int .i64 ay]) (dv_loads (l := [.int .i64 ax, .int .i64 ay]) agt25 sz25 (T rfl rfl) H42 rfl) ?_
         refine lw_v (.pointer (some ⟨b1, 2, none⟩)) (dv_fieldAddr (a := ⟨b1, 0, none⟩) (a' := ⟨b1, 2, none⟩) fo27_1 (T rfl rfl) rfl) ?_
         refine lw_v (.agg #[.int .i64 bx, .int .i64 b_y]) (dv_loads (l := [.int .i64 bx, .int .i64 b_y]) agt25 sz25 (T rfl rfl) H42 rfl) ?_
         refine lw_v (.int .i64 lx) (dv_move (T rfl rfl)) ?_
         refine lw_v (.int .i64 hy) (dv_move (T rfl rfl)) ?_
         refine lw_v (.agg #[.int .i64 lx, .int .i64 hy]) (dv_build (pv := [(0, .int .i64 lx), (1, .int .i64 hy)]) (l := [.int .i64 lx, .int .i64 hy]) zc25 pl25 ⟨rfl, (T rfl rfl), ⟨rfl, (T rfl rfl), trivial⟩⟩ rfl) ?_
         refine lw_e (oe_callf (vs := [.agg #[.int .i64 ax, .int .i64 ay], .agg #[.int .i64 bx, .int .i64 b_y], .agg #[.int .i64 lx, .int .i64 hy]]) co87 (ar3 (T rfl rfl) (T rfl rfl) (T rfl rfl)) (cross_ok (ax := ax) (ay := ay) (bx := bx) (b_y := b_y) (px := lx) (py := hy)  (by omega) (by omega)) ?_)
         rintro _ w43 ⟨rfl, e44⟩
         have E45 := below_ext E40 E40.size e44
         have := cross_rg (by omega : (-1000000 ≤ ax ∧ ax ≤ 1000000) ∧ (-1000000 ≤ ay ∧ ay ≤ 1000000) ∧ (-1000000 ≤ bx ∧ bx ≤ 1000000) ∧ (-1000000 ≤ b_y ∧ b_y ≤ 1000000)) (by omega : (-1000000 ≤ lx ∧ lx ≤ 1000000) ∧ (-1000000 ≤ hy ∧ hy ≤ 1000000))
         refine lw_e (oe_callf (vs := [.int .i64 (crossI ax ay bx b_y lx hy)]) co79 (ar1 (T rfl rfl)) (isign_ok (n := crossI ax ay bx b_y lx hy)  ) ?_)
         rintro _ w46 ⟨rfl, e47⟩
         have E48 := below_ext E45 E45.size e47
         have := sgnI_rg (crossI ax ay bx b_y lx hy)
         refine lw_v (.int .i64 (sgnI (crossI ax ay bx b_y lx hy))) (dv_assign (T rfl rfl)) ?_
         refine lw_nil ?_
         refine rk_reg ?_
         refine lw_v (.int .i64 (mn 1 (sgnI (crossI ax ay bx b_y lx ly)))) (dv_move (T rfl rfl)) ?_
         refine lw_v (.int .i64 (sgnI (crossI ax ay bx b_y lx hy))) (dv_move (T rfl rfl)) ?_
         refine lw_v (.int .i64 (mn (mn 1 (sgnI (crossI ax ay bx b_y lx ly))) (sgnI (crossI ax ay bx b_y lx hy)))) (dv_min (a := mn 1 (sgnI (crossI ax ay bx b_y lx ly))) (b := sgnI (crossI ax ay bx b_y lx hy)) (T rfl rfl) (T rfl rfl)) ?_
         refine lw_v (.int .i64 (mx (-1) (sgnI (crossI ax ay bx b_y lx ly)))) (dv_move (T rfl rfl)) ?_
         refine lw_v (.int .i64 (sgnI (crossI ax ay bx b_y lx hy))) (dv_move (T rfl rfl)) ?_
         refine lw_v (.int .i64 (mx (mx (-1) (sgnI (crossI ax ay bx b_y lx ly))) (sgnI (crossI ax ay bx b_y lx hy)))) (dv_max (a := mx (-1) (sgnI (crossI ax ay bx b_y lx ly))) (b := sgnI (crossI ax ay bx b_y lx hy)) (T rfl rfl) (T rfl rfl)) ?_
         refine lw_v (.int .i64 (mn (mn 1 (sgnI (crossI ax ay bx b_y lx ly))) (sgnI (crossI ax ay bx b_y lx hy)))) (dv_assign (T rfl rfl)) ?_
         refine lw_v (.int .i64 (mx (mx (-1) (sgnI (crossI ax ay bx b_y lx ly))) (sgnI (crossI ax ay bx b_y lx hy)))) (dv_assign (T rfl rfl)) ?_
         refine lw_nil ?_
         refine rk_inBlock ?_
         refine rk_reg ?_
         refine lw_v (.int .i64 2) (dv_add (a := 1) (b := 1) (z := 2) (T rfl rfl) C (by decide)) ?_
         refine lw_v (.int .i64 2) (dv_move (T rfl rfl)) ?_
         refine lw_nil ?_
         refine rk_inLoop ?_
         refine rk_seq ?_
         refine rk_reg ?_
         refine lw_v (.bool (decide (((2 : Int) < 2 : Prop)))) (dv_lss (a := 2) (b := 2) (T rfl rfl) (T rfl rfl)) ?_
         refine lw_nil ?_
         refine rk_seq ?_
         refine rk_cf (T rfl (rfl)) ?_
         refine rk_exit rfl ?_
         refine rk_inBlock ?_
         refine rk_reg ?_
         refine lw_v (.int .i64 1) (dv_add (a := 0) (b := 1) (z := 1) (T rfl rfl) C (by decide)) ?_
         refine lw_v (.int .i64 1) (dv_move (T rfl rfl)) ?_
         refine lw_nil ?_
         refine rk_inLoop ?_
         refine rk_seq ?_
         refine rk_reg ?_
         refine lw_v (.bool (decide (((1 : Int) < 2 : Prop)))) (dv_lss (a := 1) (b := 2) (T rfl rfl) (T rfl rfl)) ?_
         refine lw_nil ?_
         refine rk_seq ?_
         refine rk_ct (T rfl (rfl)) ?_
         refine rk_skip ?_
         refine rk_seq ?_
         refine rk_block ?_
         refine rk_seq ?_
         refine rk_reg ?_
         refine lw_v (.pointer (some ⟨b22, 1, none⟩)) (dv_indexAddr (a := ⟨b22, 0, none⟩) (a' := ⟨b22, 1, none⟩) (l := 2) (c := 2) (j := 1) us50 sz2 (T rfl rfl) (T rfl rfl) (by decide) (by decide) rfl) ?_
         have H49 := (e47.blk (e44.blk (e39.blk (e36.blk (n31.ext.blk n24.blk)))))
         refine lw_v (.int .i64 hx) (dv_load1 (b := b22) (o := 1) agt2 (T rfl rfl) H49 rfl) ?_
         refine lw_v (.int .i64 hx) (dv_assign (T rfl rfl)) ?_
         refine lw_nil ?_
         refine rk_seq ?_
         refine rk_reg ?_
         refine lw_v (.pointer (some ⟨b6, 1, none⟩)) (dv_fieldAddr (a := ⟨b6, 0, none⟩) (a' := ⟨b6, 1, none⟩) fo25_1 (T rfl rfl) rfl) ?_
         have H50 := (e47.blk (e44.blk (e39.blk (e36.blk (n31.ext.blk H27)))))
         refine lw_v (.int .i64 ly) (dv_load1 (b := b6) (o := 1) agt2 (T rfl rfl) H50 rfl) ?_
         refine lw_v (.pointer (some ⟨b11, 1, none⟩)) (dv_fieldAddr (a := ⟨b11, 0, none⟩) (a' := ⟨b11, 1, none⟩) fo25_1 (T rfl rfl) rfl) ?_
         have H51 := (e47.blk (e44.blk (e39.blk (e36.blk (n31.ext.blk H28)))))
         refine lw_v (.int .i64 hy) (dv_load1 (b := b11) (o := 1) agt2 (T rfl rfl) H51 rfl) ?_
         refine lw_e (oe_buildSlice (pv := [(0, .int .i64 ly), (1, .int .i64 hy)]) (init := [.int .i64 0, .int .i64 0]) (l := [.int .i64 ly, .int .i64 hy]) us50 sz2 rfl rfl zc2 (by kernel_rfl) ⟨rfl, (T rfl rfl), ⟨rfl, (T rfl rfl), trivial⟩⟩ rfl ?_)
         intro b52 w53 n54
         have N55 : w.heap.size ≤ b52 := n54.eq ▸ E48.size
         have H56 := (e47.blk (e44.blk H41))
         have : b29 < b52 := n54.eq ▸ lt_of_blk H56
         have E57 := below_ext E48 E48.size n54.ext
         refine lw_v (.int .i64 2) (dv_len (ad := some ⟨b52, 0, none⟩) (l := 2) (c := 2) us50 (T rfl rfl)) ?_
         refine lw_v (.int .i64 0) (dv_move C) ?_
         refine lw_nil ?_
         refine rk_block ?_
         refine rk_unroll ?_
         refine rk_seq ?_
         refine rk_reg ?_
         refine lw_v (.bool (decide (((0 : Int) < 2 : Prop)))) (dv_lss (a := 0) (b := 2) (T rfl rfl) (T rfl rfl)) ?_
         refine lw_nil ?_
         refine rk_seq ?_
         refine rk_ct (T rfl (rfl)) ?_
         refine rk_skip ?_
         refine rk_seq ?_
         refine rk_block ?_
         refine rk_seq ?_
         refine rk_reg ?_
         refine lw_v (.pointer (some ⟨b52, 0, none⟩)) (dv_indexAddr (a := ⟨b52, 0, none⟩) (a' := ⟨b52, 0, none⟩) (l := 2) (c := 2) (j := 0) us50 sz2 (T rfl rfl) (T rfl rfl) (by decide) (by decide) rfl) ?_
         refine lw_v (.int .i64 ly) (dv_load1 (b := b52) (o := 0) agt2 (T rfl rfl) n54.blk rfl) ?_
         refine lw_v (.int .i64 ly) (dv_assign (T rfl rfl)) ?_
         refine lw_nil ?_
         refine rk_seq ?_
         refine rk_reg ?_
         refine lw_v (.pointer (some ⟨b1, 0, none⟩)) (dv_fieldAddr (a := ⟨b1, 0, none⟩) (a' := ⟨b1, 0, none⟩) fo27_0 (T rfl rfl) rfl) ?_
         have H58 := (n54.ext.blk (e47.blk (e44.blk H42)))
         refine lw_v (.agg #[.int .i64 ax, .int .i64 ay]) (dv_loads (l := [.int .i64 ax, .int .i64 ay]) agt25 sz25 (T rfl rfl) H58 rfl) ?_
         refine lw_v (.pointer (some ⟨b1, 2, none⟩)) (dv_fieldAddr (a := ⟨b1, 0, none⟩) (a' := ⟨b1, 2, none⟩) fo27_1 (T rfl rfl) rfl) ?_
         refine lw_v (.agg #[.int .i64 bx, .int .i64 b_y]) (dv_loads (l := [.int .i64 bx, .int .i64 b_y]) agt25 sz25 (T rfl rfl) H58 rfl) ?_
         refine lw_v (.int .i64 hx) (dv_move (T rfl rfl)) ?_
         refine lw_v (.int .i64 ly) (dv_move (T rfl rfl)) ?_
         refine lw_v (.agg #[.int .i64 hx, .int .i64 ly]) (dv_build (pv := [(0, .int .i64 hx), (1, .int .i64 ly)]) (l := [.int .i64 hx, .int .i64 ly]) zc25 pl25 ⟨rfl, (T rfl rfl), ⟨rfl, (T rfl rfl), trivial⟩⟩ rfl) ?_
         refine lw_e (oe_callf (vs := [.agg #[.int .i64 ax, .int .i64 ay], .agg #[.int .i64 bx, .int .i64 b_y], .agg #[.int .i64 hx, .int .i64 ly]]) co87 (ar3 (T rfl rfl) (T rfl rfl) (T rfl rfl)) (cross_ok (ax := ax) (ay := ay) (bx := bx) (b_y := b_y) (px := hx) (py := ly)  (by omega) (by omega)) ?_)
         rintro _ w59 ⟨rfl, e60⟩
         have E61 := below_ext E57 E57.size e60
         have := cross_rg (by omega : (-1000000 ≤ ax ∧ ax ≤ 1000000) ∧ (-1000000 ≤ ay ∧ ay ≤ 1000000) ∧ (-1000000 ≤ bx ∧ bx ≤ 1000000) ∧ (-1000000 ≤ b_y ∧ b_y ≤ 1000000)) (by omega : (-1000000 ≤ hx ∧ hx ≤ 1000000) ∧ (-1000000 ≤ ly ∧ ly ≤ 1000000))
         refine lw_e (oe_callf (vs := [.int .i64 (crossI ax ay bx b_y hx ly)]) co79 (ar1 (T rfl rfl)) (isign_ok (n := crossI ax ay bx b_y hx ly)  ) ?_)
         rintro _ w62 ⟨rfl, e63⟩
         have E64 := below_ext E61 E61.size e63
         have := sgnI_rg (crossI ax ay bx b_y hx ly)
         refine lw_v (.int .i64 (sgnI (crossI ax ay bx b_y hx ly))) (dv_assign (T rfl rfl)) ?_
         refine lw_nil ?_
         refine rk_reg ?_
         refine lw_v (.int .i64 (mn (mn 1 (sgnI (crossI ax ay bx b_y lx ly))) (sgnI (crossI ax ay bx b_y lx hy)))) (dv_move (T rfl rfl)) ?_
         refine lw_v (.int .i64 (sgnI (crossI ax ay bx b_y hx ly))) (dv_move (T rfl rfl)) ?_
         refine lw_v (.int .i64 (mn (mn (mn 1 (sgnI (crossI ax ay bx b_y lx ly))) (sgnI (crossI ax ay bx b_y lx hy))) (sgnI (crossI ax ay bx b_y hx ly)))) (dv_min (a := mn (mn 1 (sgnI (crossI ax ay bx b_y lx ly))) (sgnI (crossI ax ay bx b_y lx hy))) (b := sgnI (crossI ax ay bx b_y hx ly)) (T rfl rfl) (T rfl rfl)) ?_
         refine lw_v (.int .i64 (mx (mx (-1) (sgnI (crossI ax ay bx b_y lx ly))) (sgnI (crossI ax ay bx b_y lx hy)))) (dv_move (T rfl rfl)) ?_
         refine lw_v (.int .i64 (sgnI (crossI ax ay bx b_y hx ly))) (dv_move (T rfl rfl)) ?_
         refine lw_v (.int .i64 (mx (mx (mx (-1) (sgnI (crossI ax ay bx b_y lx ly))) (sgnI (crossI ax ay bx b_y lx hy))) (sgnI (crossI ax ay bx b_y hx ly)))) (dv_max (a := mx (mx (-1) (sgnI (crossI ax ay bx b_y lx ly))) (sgnI (crossI ax ay bx b_y lx hy))) (b := sgnI (crossI ax ay bx b_y hx ly)) (T rfl rfl) (T rfl rfl)) ?_
         refine lw_v (.int .i64 (mn (mn (mn 1 (sgnI (crossI ax ay bx b_y lx ly))) (sgnI (crossI ax ay bx b_y lx hy))) (sgnI (crossI ax ay bx b_y hx ly)))) (dv_assign (T rfl rfl)) ?_
         refine lw_v (.int .i64 (mx (mx (mx (-1) (sgnI (crossI ax ay bx b_y lx ly))) (sgnI (crossI ax ay bx b_y lx hy))) (sgnI (crossI ax ay bx b_y hx ly)))) (dv_assign (T rfl rfl)) ?_
         refine lw_nil ?_
         refine rk_inBlock ?_
         refine rk_reg ?_
         refine lw_v (.int .i64 1) (dv_add (a := 0) (b := 1) (z := 1) (T rfl rfl) C (by decide)) ?_
         refine lw_v (.int .i64 1) (dv_move (T rfl rfl)) ?_
         refine lw_nil ?_
         refine rk_inLoop ?_
         refine rk_seq ?_
         refine rk_reg ?_
         refine lw_v (.bool (decide (((1 : Int) < 2 : Prop)))) (dv_lss (a := 1) (b := 2) (T rfl rfl) (T rfl rfl)) ?_
         refine lw_nil ?_
         refine rk_seq ?_
         refine rk_ct (T rfl (rfl)) ?_
         refine rk_skip ?_
         refine rk_seq ?_
         refine rk_block ?_
         refine rk_seq ?_
         refine rk_reg ?_
         refine lw_v (.pointer (some ⟨b52, 1, none⟩)) (dv_indexAddr (a := ⟨b52, 0, none⟩) (a' := ⟨b52, 1, none⟩) (l := 2) (c := 2) (j := 1) us50 sz2 (T rfl rfl) (T rfl rfl) (by decide) (by decide) rfl) ?_
         have H65 := (e63.blk (e60.blk n54.blk))
         refine lw_v (.int .i64 hy) (dv_load1 (b := b52) (o := 1) agt2 (T rfl rfl) H65 rfl) ?_
         refine lw_v (.int .i64 hy) (dv_assign (T rfl rfl)) ?_
         refine lw_nil ?_
         refine rk_seq ?_
         refine rk_reg ?_
         refine lw_v (.pointer (some ⟨b1, 0, none⟩)) (dv_fieldAddr (a := ⟨b1, 0, none⟩) (a' := ⟨b1, 0, none⟩) fo27_0 (T rfl rfl) rfl) ?_
         have H66 := (e63.blk (e60.blk H58))
         refine lw_v (.agg #[.int .i64 ax, .int .i64 ay]) (dv_loads (l := [.int .i64 ax, .int .i64 ay]) agt25 sz25 (T rfl rfl) H66 rfl) ?_
         refine lw_v (.pointer (some ⟨b1, 2, none⟩)) (dv_fieldAddr (a := ⟨b1, 0, none⟩) (a' := ⟨b1, 2, none⟩) fo27_1 (T rfl rfl) rfl) ?_
         refine lw_v (.agg #[.int .i64 bx, .int .i64 b_y]) (dv_loads (l := [.int .i64 bx, .int .i64 b_y]) agt25 sz25 (T rfl rfl) H66 rfl) ?_
         refine lw_v (.int .i64 hx) (dv_move (T rfl rfl)) ?_
         refine lw_v (.int .i64 hy) (dv_move (T rfl rfl)) ?_
         refine lw_v (.agg #[.int .i64 hx, .int .i64 hy]) (dv_build (pv := [(0, .int .i64 hx), (1, .int .i64 hy)]) (l := [.int .i64 hx, .int .i64 hy]) zc25 pl25 ⟨rfl, (T rfl rfl), ⟨rfl, (T rfl rfl), trivial⟩⟩ rfl) ?_
         refine lw_e (oe_callf (vs := [.agg #[.int .i64 ax, .int .i64 ay], .agg #[.int .i64 bx, .int .i64 b_y], .agg #[.int .i64 hx, .int .i64 hy]]) co87 (ar3 (T rfl rfl) (T rfl rfl) (T rfl rfl)) (cross_ok (ax := ax) (ay := ay) (bx := bx) (b_y := b_y) (px := hx) (py := hy)  (by omega) (by omega)) ?_)
         rintro _ w67 ⟨rfl, e68⟩
         have E69 := below_ext E64 E64.size e68
         have := cross_rg (by omega : (-1000000 ≤ ax ∧ ax ≤ 1000000) ∧ (-1000000 ≤ ay ∧ ay ≤ 1000000) ∧ (-1000000 ≤ bx ∧ bx ≤ 1000000) ∧ (-1000000 ≤ b_y ∧ b_y ≤ 1000000)) (by omega : (-1000000 ≤ hx ∧ hx ≤ 1000000) ∧ (-1000000 ≤ hy ∧ hy ≤ 1000000))
         refine lw_e (oe_callf (vs := [.int .i64 (crossI ax ay bx b_y hx hy)]) co79 (ar1 (T rfl rfl)) (isign_ok (n := crossI ax ay bx b_y hx hy)  ) ?_)
         rintro _ w70 ⟨rfl, e71⟩
         have E72 := below_ext E69 E69.size e71
         have := sgnI_rg (crossI ax ay bx b_y hx hy)
         refine lw_v (.int .i64 (sgnI (crossI ax ay bx b_y hx hy))) (dv_assign (T rfl rfl)) ?_
         refine lw_nil ?_
         refine rk_reg ?_
         refine lw_v (.int .i64 (mn (mn (mn 1 (sgnI (crossI ax ay bx b_y lx ly))) (sgnI (crossI ax ay bx b_y lx hy))) (sgnI (crossI ax ay bx b_y hx ly)))) (dv_move (T rfl rfl)) ?_
         refine lw_v (.int .i64 (sgnI (crossI ax ay bx b_y hx hy))) (dv_move (T rfl rfl)) ?_
         refine lw_v (.int .i64 (mn (mn (mn (mn 1 (sgnI (crossI ax ay bx b_y lx ly))) (sgnI (crossI ax ay bx b_y lx hy))) (sgnI (crossI ax ay bx b_y hx ly))) (sgnI (crossI ax ay bx b_y hx hy)))) (dv_min (a := mn (mn (mn 1 (sgnI (crossI ax ay bx b_y lx ly))) (sgnI (crossI ax ay bx b_y lx hy))) (sgnI (crossI ax ay bx b_y hx ly))) (b := sgnI (crossI ax ay bx b_y hx hy)) (T rfl rfl) (T rfl rfl)) ?_
         refine lw_v (.int .i64 (mx (mx (mx (-1) (sgnI (crossI ax ay bx b_y lx ly))) (sgnI (crossI ax ay bx b_y lx hy))) (sgnI (crossI ax ay bx b_y hx ly)))) (dv_move (T rfl rfl)) ?_
         refine lw_v (.int .i64 (sgnI (crossI ax ay bx b_y hx hy))) (dv_move (T rfl rfl)) ?_
         refine lw_v (.int .i64 (mx (mx (mx (mx (-1) (sgnI (crossI ax ay bx b_y lx ly))) (sgnI (crossI ax ay bx b_y lx hy))) (sgnI (crossI ax ay bx b_y hx ly))) (sgnI (crossI ax ay bx b_y hx hy)))) (dv_max (a := mx (mx (mx (-1) (sgnI (crossI ax ay bx b_y lx ly))) (sgnI (crossI ax ay bx b_y lx hy))) (sgnI (crossI ax ay bx b_y hx ly))) (b := sgnI (crossI ax ay bx b_y hx hy)) (T rfl rfl) (T rfl rfl)) ?_
         refine lw_v (.int .i64 (mn (mn (mn (mn 1 (sgnI (crossI ax ay bx b_y lx ly))) (sgnI (crossI ax ay bx b_y lx hy))) (sgnI (crossI ax ay bx b_y hx ly))) (sgnI (crossI ax ay bx b_y hx hy)))) (dv_assign (T rfl rfl)) ?_
         refine lw_v (.int .i64 (mx (mx (mx (mx (-1) (sgnI (crossI ax ay bx b_y lx ly))) (sgnI (crossI ax ay bx b_y lx hy))) (sgnI (crossI ax ay bx b_y hx ly))) (sgnI (crossI ax ay bx b_y hx hy)))) (dv_assign (T rfl rfl)) ?_
         refine lw_nil ?_
         refine rk_inBlock ?_
         refine rk_reg ?_
         refine lw_v (.int .i64 2) (dv_add (a := 1) (b := 1) (z := 2) (T rfl rfl) C (by decide)) ?_
         refine lw_v (.int .i64 2) (dv_move (T rfl rfl)) ?_
         refine lw_nil ?_
         refine rk_inLoop ?_
         refine rk_seq ?_
         refine rk_reg ?_
         refine lw_v (.bool (decide (((2 : Int) < 2 : Prop)))) (dv_lss (a := 2) (b := 2) (T rfl rfl) (T rfl rfl)) ?_
         refine lw_nil ?_
         refine rk_seq ?_
         refine rk_cf (T rfl (rfl)) ?_
         refine rk_exit rfl ?_
         refine rk_inBlock ?_
         refine rk_reg ?_
         refine lw_v (.int .i64 2) (dv_add (a := 1) (b := 1) (z := 2) (T rfl rfl) C (by decide)) ?_
         refine lw_v (.int .i64 2) (dv_move (T rfl rfl)) ?_
         refine lw_nil ?_
         refine rk_inLoop ?_
         refine rk_seq ?_
         refine rk_reg ?_
         refine lw_v (.bool (decide (((2 : Int) < 2 : Prop)))) (dv_lss (a := 2) (b := 2) (T rfl rfl) (T rfl rfl)) ?_
         refine lw_nil ?_
         refine rk_seq ?_
         refine rk_cf (T rfl (rfl)) ?_
         refine rk_exit rfl ?_
         refine rk_seq ?_
         refine rk_reg ?_
         refine lw_v (.int .i64 (mn (mn (mn (mn 1 (sgnI (crossI ax ay bx b_y lx ly))) (sgnI (crossI ax ay bx b_y lx hy))) (sgnI (crossI ax ay bx b_y hx ly))) (sgnI (crossI ax ay bx b_y hx hy)))) (dv_move (T rfl rfl)) ?_
         refine lw_v (.bool (decide ((mn (mn (mn (mn 1 (sgnI (crossI ax ay bx b_y lx ly))) (sgnI (crossI ax ay bx b_y lx hy))) (sgnI (crossI ax ay bx b_y hx ly))) (sgnI (crossI ax ay bx b_y hx hy))) ≤ 0))) (dv_leq (a := mn (mn (mn (mn 1 (sgnI (crossI ax ay bx b_y lx ly))) (sgnI (crossI ax ay bx b_y lx hy))) (sgnI (crossI ax ay bx b_y hx ly))) (sgnI (crossI ax ay bx b_y hx hy))) (b := 0) (T rfl rfl) C) ?_
         refine lw_v (.bool (decide ((mn (mn (mn (mn 1 (sgnI (crossI ax ay bx b_y lx ly))) (sgnI (crossI ax ay bx b_y lx hy))) (sgnI (crossI ax ay bx b_y hx ly))) (sgnI (crossI ax ay bx b_y hx hy))) ≤ 0))) (dv_move (T rfl rfl)) ?_
         by_cases hb73 : (mn (mn (mn (mn 1 (sgnI (crossI ax ay bx b_y lx ly))) (sgnI (crossI ax ay bx b_y lx hy))) (sgnI (crossI ax ay bx b_y hx ly))) (sgnI (crossI ax ay bx b_y hx hy))) ≤ 0
         · refine lw_vy (.int .i64 (mx (mx (mx (mx (-1) (sgnI (crossI ax ay bx b_y lx ly))) (sgnI (crossI ax ay bx b_y lx hy))) (sgnI (crossI ax ay bx b_y hx ly))) (sgnI (crossI ax ay bx b_y hx hy)))) (d := 91) rfl rfl (congrArg Value.bool (decide_eq_true hb73)) (dv_move (T rfl rfl)) ?_
           refine lw_vy (.bool (decide (0 ≤ (mx (mx (mx (mx (-1) (sgnI (crossI ax ay bx b_y lx ly))) (sgnI (crossI ax ay bx b_y lx hy))) (sgnI (crossI ax ay bx b_y hx ly))) (sgnI (crossI ax ay bx b_y hx hy)))))) (d := 91) rfl rfl (congrArg Value.bool (decide_eq_true hb73)) (dv_geq (a := mx (mx (mx (mx (-1) (sgnI (crossI ax ay bx b_y lx ly))) (sgnI (crossI ax ay bx b_y lx hy))) (sgnI (crossI ax ay bx b_y hx ly))) (sgnI (crossI ax ay bx b_y hx hy))) (b := 0) (T rfl rfl) C) ?_
           refine lw_v (.bool (decide (0 ≤ (mx (mx (mx (mx (-1) (sgnI (crossI ax ay bx b_y lx ly))) (sgnI (crossI ax ay bx b_y lx hy))) (sgnI (crossI ax ay bx b_y hx ly))) (sgnI (crossI ax ay bx b_y hx hy)))))) (dv_pick_t (T rfl (congrArg Value.bool (decide_eq_true hb73))) (T rfl rfl)) ?_
           refine lw_v (.bool (decide (0 ≤ (mx (mx (mx (mx (-1) (sgnI (crossI ax ay bx b_y lx ly))) (sgnI (crossI ax ay bx b_y lx hy))) (sgnI (crossI ax ay bx b_y hx ly))) (sgnI (crossI ax ay bx b_y hx hy)))))) (dv_assign (T rfl rfl)) ?_
           refine lw_nil ?_
           refine rk_ret Try.func41 (v := .bool (decide (0 ≤ (mx (mx (mx (mx (-1) (sgnI (crossI ax ay bx b_y lx ly))) (sgnI (crossI ax ay bx b_y lx hy))) (sgnI (crossI ax ay bx b_y hx ly))) (sgnI (crossI ax ay bx b_y hx hy)))))) (res1 Try.results41 (rv_tmp rfl rfl)) ⟨_, rfl, ?_⟩
           have e1 := @mx_lt ay b_y ly; have e2 := @lt_mn ay b_y hy; have e3 : crs = crossI := rfl
           have e4 := @mn4 (crossI ax ay bx b_y lx ly) (crossI ax ay bx b_y lx hy) (crossI ax ay bx b_y hx ly) (crossI ax ay bx b_y hx hy); have e5 := @mx4 (crossI ax ay bx b_y lx ly) (crossI ax ay bx b_y lx hy) (crossI ax ay bx b_y hx ly) (crossI ax ay bx b_y hx hy)
           exact ⟨(vb (by unfold mbV; rw [e3]; omega)), E72⟩
         · refine lw_no (d := 91) rfl rfl (congrArg Value.bool (decide_eq_false hb73)) ?_
           refine lw_no (d := 91) rfl rfl (congrArg Value.bool (decide_eq_false hb73)) ?_
           refine lw_v (.bool false) (dv_pick_f (T rfl (congrArg Value.bool (decide_eq_false hb73))) C) ?_
           refine lw_v (.bool false) (dv_assign (T rfl rfl)) ?_
           refine lw_nil ?_
           refine rk_ret Try.func41 (v := .bool false) (res1 Try.results41 (rv_tmp rfl rfl)) ⟨_, rfl, ?_⟩
           have e1 := @mx_lt ay b_y ly; have e2 := @lt_mn ay b_y hy; have e3 : crs = crossI := rfl
           have e4 := @mn4 (crossI ax ay bx b_y lx ly) (crossI ax ay bx b_y lx hy) (crossI ax ay bx b_y hx ly) (crossI ax ay bx b_y hx hy); have e5 := @mx4 (crossI ax ay bx b_y lx ly) (crossI ax ay bx b_y lx hy) (crossI ax ay bx b_y hx ly) (crossI ax ay bx b_y hx hy)
           exact ⟨(vf (by unfold mbV; rw [e3]; omega)), E72⟩
set_option maxHeartbeats 1000000 in
theorem iMeetsBox_ok {w : World} {ax ay bx b_y lx ly hx hy : Int}   : Ct Try.prog 9 [.agg #[.int .i64 ax, .int .i64 ay, .int .i64 bx, .int .i64 b_y], .agg #[.int .i64 lx, .int .i64 ly], .agg #[.int .i64 hx, .int .i64 hy]] w fun v w1 => v = .bool (decide (segOk ax ay bx b_y ∧ bxOk lx ly hx hy ∧ mbV ax ay bx b_y lx ly hx hy)) ∧ Ext w w1 := by
 refine ct_run (n := 20) Try.func9 rfl Try.ntmps9 rfl ?_
 have E0 : Below w.heap.size w w := Below.refl _ _
 refine rk_seq ?_
 refine rk_reg ?_
 refine lw_e (oe_box (v := .agg #[.int .i64 ax, .int .i64 ay, .int .i64 bx, .int .i64 b_y]) (cs := #[.int .i64 ax, .int .i64 ay, .int .i64 bx, .int .i64 b_y]) (T rfl rfl) rfl ?_)
 intro b1 w2 n3
 have N4 : w.heap.size ≤ b1 := n3.eq ▸ E0.size
 have E5 := below_ext E0 E0.size n3.ext
 refine lw_e (oe_box (v := .agg #[.int .i64 lx, .int .i64 ly]) (cs := #[.int .i64 lx, .int .i64 ly]) (T rfl rfl) rfl ?_)
 intro b6 w7 n8
 have N9 : w.heap.size ≤ b6 := n8.eq ▸ E5.size
 have : b1 < b6 := n8.eq ▸ lt_of_blk n3.blk
 have E10 := below_ext E5 E5.size n8.ext
 refine lw_e (oe_box (v := .agg #[.int .i64 hx, .int .i64 hy]) (cs := #[.int .i64 hx, .int .i64 hy]) (T rfl rfl) rfl ?_)
 intro b11 w12 n13
 have N14 : w.heap.size ≤ b11 := n13.eq ▸ E10.size
 have : b6 < b11 := n13.eq ▸ lt_of_blk n8.blk
 have E15 := below_ext E10 E10.size n13.ext
 refine lw_v (.bool false) (dv_assign C) ?_
 refine lw_nil ?_
 refine rk_seq ?_
 refine rk_reg ?_
 have H16 := (n13.ext.blk (n8.ext.blk n3.blk))
 refine lw_v (.agg #[.int .i64 ax, .int .i64 ay, .int .i64 bx, .int .i64 b_y]) (dv_loads (l := [.int .i64 ax, .int .i64 ay, .int .i64 bx, .int .i64 b_y]) agt27 sz27 (T rfl rfl) H16 rfl) ?_
 refine lw_e (oe_callf (vs := [.agg #[.int .i64 ax, .int .i64 ay, .int .i64 bx, .int .i64 b_y]]) co11 (ar1 (T rfl rfl)) (iSegOk_ok (ax := ax) (ay := ay) (bx := bx) (b_y := b_y)  ) ?_)
 rintro _ w17 ⟨rfl, e18⟩
 have E19 := below_ext E15 E15.size e18
 refine lw_v (.bool (decide (segOk ax ay bx b_y))) (dv_move (T rfl rfl)) ?_
 by_cases hb20 : segOk ax ay bx b_y
 · have := segOk_rg hb20
   have := hb20.2.2
   have hle_ : ax ≤ bx := by have h_ := hb20.2.2; unfold spotLt at h_; omega
   have H21 := (e18.blk (n13.ext.blk n8.blk))
   refine lw_vy (.agg #[.int .i64 lx, .int .i64 ly]) (d := 9) rfl rfl (congrArg Value.bool (decide_eq_true hb20)) (dv_loads (l := [.int .i64 lx, .int .i64 ly]) agt25 sz25 (T rfl rfl) H21 rfl) ?_
   have H22 := (e18.blk n13.blk)
   refine lw_vy (.agg #[.int .i64 hx, .int .i64 hy]) (d := 9) rfl rfl (congrArg Value.bool (decide_eq_true hb20)) (dv_loads (l := [.int .i64 hx, .int .i64 hy]) agt25 sz25 (T rfl rfl) H22 rfl) ?_
   refine lw_ey (d := 9) rfl rfl (congrArg Value.bool (decide_eq_true hb20)) (oe_callf (vs := [.agg #[.int .i64 lx, .int .i64 ly], .agg #[.int .i64 hx, .int .i64 hy]]) co40 (ar2 (T rfl rfl) (T rfl rfl)) (iisBox_ok (lx := lx) (ly := ly) (hx := hx) (hy := hy)  ) ?_)
   rintro _ w23 ⟨rfl, e24⟩
   have E25 := below_ext E19 E19.size e24
   refine lw_v (.bool (decide (bxOk lx ly hx hy))) (dv_pick_t (T rfl (congrArg Value.bool (decide_eq_true hb20))) (T rfl rfl)) ?_
   refine lw_v (.bool (decide (bxOk lx ly hx hy))) (dv_move (T rfl rfl)) ?_
   by_cases hb26 : bxOk lx ly hx hy
   · have := bxOk_rg hb26
     have H27 := (e24.blk (e18.blk H16))
     refine lw_vy (.agg #[.int .i64 ax, .int .i64 ay, .int .i64 bx, .int .i64 b_y]) (d := 14) rfl rfl (congrArg Value.bool (decide_eq_true hb26)) (dv_loads (l := [.int .i64 ax, .int .i64 ay, .int .i64 bx, .int .i64 b_y]) agt27 sz27 (T rfl rfl) H27 rfl) ?_
     have H28 := (e24.blk H21)
     refine lw_vy (.agg #[.int .i64 lx, .int .i64 ly]) (d := 14) rfl rfl (congrArg Value.bool (decide_eq_true hb26)) (dv_loads (l := [.int .i64 lx, .int .i64 ly]) agt25 sz25 (T rfl rfl) H28 rfl) ?_
     have H29 := (e24.blk H22)
     refine lw_vy (.agg #[.int .i64 hx, .int .i64 hy]) (d := 14) rfl rfl (congrArg Value.bool (decide_eq_true hb26)) (dv_loads (l := [.int .i64 hx, .int .i64 hy]) agt25 sz25 (T rfl rfl) H29 rfl) ?_
     refine lw_ey (d := 14) rfl rfl (congrArg Value.bool (decide_eq_true hb26)) (oe_callf (vs := [.agg #[.int .i64 ax, .int .i64 ay, .int .i64 bx, .int .i64 b_y], .agg #[.int .i64 lx, .int .i64 ly], .agg #[.int .i64 hx, .int .i64 hy]]) co41 (ar3 (T rfl rfl) (T rfl rfl) (T rfl rfl)) (imeetsBox_ok (ax := ax) (ay := ay) (bx := bx) (b_y := b_y) (lx := lx) (ly := ly) (hx := hx) (hy := hy)  (by omega) (by omega) (by omega) (by omega)) ?_)
     rintro _ w30 ⟨rfl, e31⟩
     have E32 := below_ext E25 E25.size e31
     refine lw_v (.bool (decide (mbV ax ay bx b_y lx ly hx hy))) (dv_pick_t (T rfl (congrArg Value.bool (decide_eq_true hb26))) (T rfl rfl)) ?_
     refine lw_v (.bool (decide (mbV ax ay bx b_y lx ly hx hy))) (dv_assign (T rfl rfl)) ?_
     refine lw_nil ?_
     refine rk_ret Try.func9 (v := .bool (decide (mbV ax ay bx b_y lx ly hx hy))) (res1 Try.results9 (rv_tmp rfl rfl)) ⟨_, rfl, ?_⟩
     exact ⟨(vb ⟨fun hh => ⟨by assumption, by assumption, hh⟩, fun hh => hh.2.2⟩), E32⟩
   · refine lw_no (d := 14) rfl rfl (congrArg Value.bool (decide_eq_false hb26)) ?_
     refine lw_no (d := 14) rfl rfl (congrArg Value.bool (decide_eq_false hb26)) ?_
     refine lw_no (d := 14) rfl rfl (congrArg Value.bool (decide_eq_false hb26)) ?_
     refine lw_no (d := 14) rfl rfl (congrArg Value.bool (decide_eq_false hb26)) ?_
     refine lw_v (.bool false) (dv_pick_f (T rfl (congrArg Value.bool (decide_eq_false hb26))) C) ?_
     refine lw_v (.bool false) (dv_assign (T rfl rfl)) ?_
     refine lw_nil ?_
     refine rk_ret Try.func9 (v := .bool false) (res1 Try.results9 (rv_tmp rfl rfl)) ⟨_, rfl, ?_⟩
     exact ⟨(vf (fun hh => by first | exact absurd hh.1 (by assumption) | exact absurd hh.2.1 (by assumption))), E25⟩
 · refine lw_no (d := 9) rfl rfl (congrArg Value.bool (decide_eq_false hb20)) ?_
   refine lw_no (d := 9) rfl rfl (congrArg Value.bool (decide_eq_false hb20)) ?_
   refine lw_no (d := 9) rfl rfl (congrArg Value.bool (decide_eq_false hb20)) ?_
   refine lw_v (.bool false) (dv_pick_f (T rfl (congrArg Value.bool (decide_eq_false hb20))) C) ?_
   refine lw_v (.bool false) (dv_move (T rfl rfl)) ?_
   refine lw_no (d := 14) rfl rfl (rfl) ?_
   refine lw_no (d := 14) rfl rfl (rfl) ?_
   refine lw_no (d := 14) rfl rfl (rfl) ?_
   refine lw_no (d := 14) rfl rfl (rfl) ?_
   refine lw_v (.bool false) (dv_pick_f (T rfl rfl) C) ?_
   refine lw_v (.bool false) (dv_assign (T rfl rfl)) ?_
   refine lw_nil ?_
   refine rk_ret Try.func9 (v := .bool false) (res1 Try.results9 (rv_tmp rfl rfl)) ⟨_, rfl, ?_⟩
   exact ⟨(vf (fun hh => by first | exact absurd hh.1 (by assumption) | exact absurd hh.2.1 (by assumption))), E19⟩
end Go.Proofs.Ytmbpomcbdopgnaa.W
