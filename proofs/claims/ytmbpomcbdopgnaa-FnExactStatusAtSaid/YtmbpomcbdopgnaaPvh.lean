/- Walks and plain mathematics, packed by a program of this session: declarations that the rows reach. -/
import Derived.Test.YtmbpomcbdopgnaaPvg
set_option linter.unusedVariables false
set_option linter.unusedSimpArgs false
namespace Go.Proofs.Ytmbpomcbdopgnaa.W
open Go Go.RowKit Go.Proofs.Ytmbpomcbdopgnaa.Fw
attribute [local irreducible] RunK LW AW DV OE Ct
theorem co130 : callOk Try.prog 130 = true := by kernel_rfl
theorem co135 : callOk Try.prog 135 = true := by kernel_rfl
theorem co99 : callOk Try.prog 99 = true := by kernel_rfl
set_option maxHeartbeats 1000000 in
theorem l1Div_ok {w : World} {na : Bool} {Aa : Option Addr} {la ca : Nat} {x : Int} {sx : Nat} (ha : Num 32 168 .u32 w na Aa la ca x sx) {nb : Bool} {Ab : Option Addr} {lb cb : Nat} {y : Int} {sy : Nat} (hb : Num 32 168 .u32 w nb Ab lb cb y sy) (hy : y ≠ 0) (hs : sx ≤ 200000) (hs2 : sy ≤ 200000) : Ct Try.prog 150 [.agg #[.bool na, .slice Aa la ca], .agg #[.bool nb, .slice Ab lb cb]] w fun v w1 => ∃ n1 A1 l1 c1 n2 A2 l2 c2, v = .tuple #[.agg #[.bool n1, .slice A1 l1 c1], .agg #[.bool n2, .slice A2 l2 c2]] ∧ Ext w w1 ∧ Num 32 168 .u32 w1 n1 A1 l1 c1 (x / y) sx ∧ Num 32 168 .u32 w1 n2 A2 l2 c2 (x % y) sy := by
 refine ct_run (n := 47) Try.func150 rfl Try.ntmps150 rfl ?_
 have E0 : Below w.heap.size w w := Below.refl _ _
 have lha := ql ha
 have lhb := ql hb
 refine rk_seq <| rk_reg <| lw_e (oe_box (v := .agg #[.bool na, .slice Aa la ca]) (cs := #[.bool na, .slice Aa la ca]) (Z rfl) rfl ?_)
 intro b1 w2 n3
 have N4 : w.heap.size ≤ b1 := n3.eq ▸ E0.size
 have E5 := qe E0 n3.ext
 refine lw_e (oe_box (v := .agg #[.bool nb, .slice Ab lb cb]) (cs := #[.bool nb, .slice Ab lb cb]) (Z rfl) rfl ?_)
 intro b6 w7 n8
 have N9 : w.heap.size ≤ b6 := n8.eq ▸ E5.size
 have : b1 < b6 := n8.eq ▸ lt_of_blk n3.blk
 have E10 := qe E5 n8.ext
 refine lw_e (oe_alloc ze88 ?_)
 intro b11 w12 n13
 have N14 : w.heap.size ≤ b11 := n13.eq ▸ E10.size
 have : b6 < b11 := n13.eq ▸ lt_of_blk n8.blk
 have E15 := qe E10 n13.ext
 refine lw_e (oe_alloc ze88 ?_)
 intro b16 w17 n18
 have N19 : w.heap.size ≤ b16 := n18.eq ▸ E15.size
 have : b11 < b16 := n18.eq ▸ lt_of_blk n13.blk
 have E20 := qe E15 n18.ext
 refine qN <| lw_v (.pointer (some ⟨b1, 1, none⟩)) (dv_fieldAddr (a := ⟨b1, 0, none⟩) (a' := ⟨b1, 1, none⟩) fo88_1 (Z rfl) rfl) ?_
 have H21 := (n18.ext.blk (n13.ext.blk (n8.ext.blk n3.blk)))
 refine lw_v (.slice Aa la ca) (dv_load1 (b := b1) (o := 1) agt86 (Z rfl) H21 rfl) <| lw_v (.pointer (some ⟨b6, 1, none⟩)) (dv_fieldAddr (a := ⟨b6, 0, none⟩) (a' := ⟨b6, 1, none⟩) fo88_1 (Z rfl) rfl) ?_
 have H22 := (n18.ext.blk (n13.ext.blk n8.blk))
 refine lw_v (.slice Ab lb cb) (dv_load1 (b := b6) (o := 1) agt86 (Z rfl) H22 rfl) ?_
 have h23 := ((((ha.ext n3.ext).ext n8.ext).ext n13.ext).ext n18.ext)
 have h24 := ((((hb.ext n3.ext).ext n8.ext).ext n13.ext).ext n18.ext)
 refine lw_e (oe_callf (vs := [.slice Aa la ca, .slice Ab lb cb]) co130 (ar2 (Z rfl) (Z rfl)) (l1DivAbs_ok h23.wc h24.wc (by omega) h23.ltI h24.ltI (by omega) (by omega)) ?_)
 rintro _ w33 ⟨A25, n26, c27, A28, n29, c30, rfl, e34, h31, h32⟩
 have E35 := qe E20 e34
 have lh31 := Wc.len (by decide) h31 (div_sz (Wc.nonneg h23.wc) (by omega) h23.ltI)
 have lh32 := Wc.len (by decide) h32 (mod_sz (by omega) h24.ltI)
 refine qm (.tuple #[.slice A25 n26 c27, .slice A28 n29 c30]) rfl rfl <| lw_v (.slice A25 n26 c27) (dv_extract (vs := #[.slice A25 n26 c27, .slice A28 n29 c30]) (Z rfl) rfl) <| lw_v (.slice A28 n29 c30) (dv_extract (vs := #[.slice A25 n26 c27, .slice A28 n29 c30]) (Z rfl) rfl) <| qs (.slice A25 n26 c27) rfl rfl <| qs (.slice A28 n29 c30) rfl rfl <| qN <| lw_v (.pointer (some ⟨b1, 0, none⟩)) (dv_fieldAddr (a := ⟨b1, 0, none⟩) (a' := ⟨b1, 0, none⟩) fo88_0 (Z rfl) rfl) ?_
 have H36 := (e34.blk H21)
 refine lw_v (.bool na) (dv_load1 (b := b1) (o := 0) agt4 (Z rfl) H36 rfl) <| lw_v (.pointer (some ⟨b6, 0, none⟩)) (dv_fieldAddr (a := ⟨b6, 0, none⟩) (a' := ⟨b6, 0, none⟩) fo88_0 (Z rfl) rfl) ?_
 have H37 := (e34.blk H22)
 refine lw_v (.bool nb) (dv_load1 (b := b6) (o := 0) agt4 (Z rfl) H37 rfl) <| lw_v (.bool (na != nb)) (dv_neqb (a := na) (b := nb) ub4 (Z rfl) (Z rfl)) <| qm (.slice A25 n26 c27) rfl rfl <| lw_e (oe_callf (vs := [.bool (na != nb), .slice A25 n26 c27]) co131 (ar2 (Z rfl) (Z rfl)) (l1Trim_num (s := sx) (neg := na != nb) h31.ws (by first | omega | simp <;> omega) (div_sz (Wc.nonneg h23.wc) (by omega) h23.ltI)) ?_)
 rintro _ w43 ⟨nb38, A39, n40, c41, rfl, e44, hn42⟩
 have E45 := qe E35 e44
 have lhn42 := ql hn42
 refine lw_e (oe_alloc ze88 ?_)
 intro b46 w47 n48
 have N49 : w.heap.size ≤ b46 := n48.eq ▸ E45.size
 have H50 := (e44.blk (e34.blk n18.blk))
 have : b16 < b46 := n48.eq ▸ lt_of_blk H50
 have E51 := qe E45 n48.ext
 refine lw_e (oe_store (v := .agg #[.bool nb38, .slice A39 n40 c41]) (vs := [.bool nb38, .slice A39 n40 c41]) (l := [.bool nb38, .slice A39 n40 c41]) (Z rfl) (Z rfl) sz88 rfl rfl rfl n48.blk rfl ?_)
 intro w52 s53 H54
 have E55 := below_st E51 N49 s53
 refine qN <| lw_v (.pointer (some ⟨b1, 0, none⟩)) (dv_fieldAddr (a := ⟨b1, 0, none⟩) (a' := ⟨b1, 0, none⟩) fo88_0 (Z rfl) rfl) ?_
 have H56 := (s53.blk (n48.ext.blk (e44.blk H36)) (by omega))
 refine lw_v (.bool na) (dv_load1 (b := b1) (o := 0) agt4 (Z rfl) H56 rfl) <| qm (.slice A28 n29 c30) rfl rfl ?_
 have h57 := (((h32.ext e44).ext n48.ext).st s53 n48.blk (by decide))
 refine lw_e (oe_callf (vs := [.bool na, .slice A28 n29 c30]) co131 (ar2 (Z rfl) (Z rfl)) (l1Trim_num (s := sy) (neg := na) h57.ws (by first | omega | simp <;> omega) (mod_sz (by omega) h24.ltI)) ?_)
 rintro _ w63 ⟨nb58, A59, n60, c61, rfl, e64, hn62⟩
 have E65 := qe E55 e64
 have lhn62 := ql hn62
 refine lw_e (oe_alloc ze88 ?_)
 intro b66 w67 n68
 have N69 : w.heap.size ≤ b66 := n68.eq ▸ E65.size
 have H70 := (e64.blk H54)
 have : b46 < b66 := n68.eq ▸ lt_of_blk H70
 have E71 := qe E65 n68.ext
 refine lw_e (oe_store (v := .agg #[.bool nb58, .slice A59 n60 c61]) (vs := [.bool nb58, .slice A59 n60 c61]) (l := [.bool nb58, .slice A59 n60 c61]) (Z rfl) (Z rfl) sz88 rfl rfl rfl n68.blk rfl ?_)
 intro w72 s73 H74
 have E75 := below_st E71 N69 s73
 refine lw_nil <| rk_seq <| rk_seq ?_
 have h76 := ((hn62.ext n68.ext).st s73 n68.blk (by decide))
 have hrn := h76.neg_iff
 refine rk_reg <| lw_v (.pointer (some ⟨b66, 0, none⟩)) (dv_fieldAddr (a := ⟨b66, 0, none⟩) (a' := ⟨b66, 0, none⟩) fo88_0 (Z rfl) rfl) <| lw_v (.bool nb58) (dv_load1 (b := b66) (o := 0) agt4 (Z rfl) H74 rfl) <| lw_nil ?_
 rcases Bool.eq_false_or_eq_true (nb58) with hb77 | hb77
 · refine rk_ct (T rfl (congrArg Value.bool hb77)) <| rk_seq <| rk_reg <| lw_v (.pointer (some ⟨b6, 0, none⟩)) (dv_fieldAddr (a := ⟨b6, 0, none⟩) (a' := ⟨b6, 0, none⟩) fo88_0 (Z rfl) rfl) ?_
   have H78 := (s73.blk (n68.ext.blk (e64.blk (s53.blk (n48.ext.blk (e44.blk H37)) (by omega)))) (by omega))
   refine lw_v (.bool nb) (dv_load1 (b := b6) (o := 0) agt4 (Z rfl) H78 rfl) <| lw_nil ?_
   rcases Bool.eq_false_or_eq_true (nb) with hb79 | hb79
   · refine rk_ct (T rfl (congrArg Value.bool hb79)) <| rk_seq <| rk_any (fun w => w.heap[b46]? = some (.cells #[.bool nb38, .slice A39 n40 c41] 88)) [3] mo ?_
     intro w80 d81
     have E82 := qe E75 d81.ext
     have H83 := (d81.ext.blk (s73.blk (n68.ext.blk H70) (by omega)))
     refine aw_load 0 (.agg #[.bool nb38, .slice A39 n40 c41]) rfl (by kernel_rfl) .none H83 (fun _ s => dv_loads (l := [.bool nb38, .slice A39 n40 c41]) agt88 sz88 (Z rfl) s rfl) <| aw_one 1 rfl (by kernel_rfl) .none (oe_callf (vs := [qi 1]) co99 (ar1 C) (l1Int_ok  (by omega)) ?_)
     rintro _ w89 ⟨nr84, A85, n86, c87, rfl, e90, h88⟩
     have E91 := qe E82 e90
     have lh88 := ql h88
     have H92 := (e90.blk H83)
     refine ⟨.inr H92, ?_⟩
     have h93 := (((((((hn42.ext n48.ext).st s53 n48.blk (by decide)).ext e64).ext n68.ext).st s73 n68.blk (by decide)).ext d81.ext).ext e90)
     refine aw_one 2 rfl (by kernel_rfl) .none (oe_callf (vs := [.agg #[.bool nb38, .slice A39 n40 c41], .agg #[.bool nr84, .slice A85 n86 c87]]) co137 (ar2 (Z rfl) (Z rfl)) (l1Add_ok h93 h88 (by first | decide | omega) (by first | decide | omega)) ?_)
     rintro _ w99 ⟨nr94, A95, n96, c97, rfl, e100, h98⟩
     have E101 := qe E91 e100
     have lh98 := ql h98
     have H102 := (e100.blk H92)
     refine ⟨.inr H102, ?_⟩
     refine aw_one 3 rfl (by kernel_rfl) .none (oe_store (v := .agg #[.bool nr94, .slice A95 n96 c97]) (vs := [.bool nr94, .slice A95 n96 c97]) (l := [.bool nr94, .slice A95 n96 c97]) (Z rfl) (Z rfl) sz88 rfl rfl rfl H102 rfl ?_)
     intro w103 s104 H105
     have E106 := below_st E101 N49 s104
     refine ⟨.inl rfl, ?_⟩
     refine aw_done (by kernel_rfl) <| rk_reg ?_
     have H107 := (s104.blk (e100.blk (e90.blk (d81.ext.blk H74))) (by omega))
     refine lw_v (.agg #[.bool nb58, .slice A59 n60 c61]) (dv_loads (l := [.bool nb58, .slice A59 n60 c61]) agt88 sz88 (Z rfl) H107 rfl) ?_
     have H108 := (s104.blk (e100.blk (e90.blk (d81.ext.blk H78))) (by omega))
     refine lw_v (.agg #[.bool nb, .slice Ab lb cb]) (dv_loads (l := [.bool nb, .slice Ab lb cb]) agt88 sz88 (Z rfl) H108 rfl) ?_
     have h109 := ((((h76.ext d81.ext).ext e90).ext e100).st s104 H102 (by decide))
     have h110 := hb.ext E106
     refine lw_e (oe_callf (vs := [.agg #[.bool nb58, .slice A59 n60 c61], .agg #[.bool nb, .slice Ab lb cb]]) co129 (ar2 (Z rfl) (Z rfl)) (l1Sub_ok h109 h110 (by first | decide | omega) (by first | decide | omega)) ?_)
     rintro _ w116 ⟨nr111, A112, n113, c114, rfl, e117, h115⟩
     have E118 := qe E106 e117
     have lh115 := ql h115
     have H119 := (e117.blk H107)
     refine lw_e (oe_store (v := .agg #[.bool nr111, .slice A112 n113 c114]) (vs := [.bool nr111, .slice A112 n113 c114]) (l := [.bool nr111, .slice A112 n113 c114]) (Z rfl) (Z rfl) sz88 rfl rfl rfl H119 rfl ?_)
     intro w120 s121 H122
     have E123 := below_st E118 N69 s121
     refine lw_nil <| rk_seq <| rk_any (fun w => w.heap[b46]? = some (.cells #[.bool nr94, .slice A95 n96 c97] 88) ∧ w.heap[b66]? = some (.cells #[.bool nr111, .slice A112 n113 c114] 88)) [3] mo ?_
     intro w124 d125
     have E126 := qe E123 d125.ext
     have H127 := (d125.ext.blk (s121.blk (e117.blk H105) (by omega)))
     have H128 := (d125.ext.blk H122)
     refine aw_load 0 (.agg #[.bool nr94, .slice A95 n96 c97]) rfl (by kernel_rfl) .none ⟨H127, H128⟩ (fun _ s => dv_loads (l := [.bool nr94, .slice A95 n96 c97]) agt88 sz88 (Z rfl) s.1 rfl) <| aw_load 1 (.agg #[.bool nr111, .slice A112 n113 c114]) rfl (by kernel_rfl) .none ⟨H127, H128⟩ (fun _ s => dv_loads (l := [.bool nr111, .slice A112 n113 c114]) agt88 sz88 (Z rfl) s.2 rfl) ?_
     have H129 := (d125.ext.blk (s121.blk (e117.blk (s104.blk (e100.blk (e90.blk (d81.ext.blk (s73.blk (n68.ext.blk (e64.blk (s53.blk (n48.ext.blk (e44.blk (e34.blk (n18.ext.blk n13.blk)))) (by omega)))) (by omega))))) (by omega))) (by omega)))
     refine aw_one 2 rfl (by kernel_rfl) .none (oe_store (v := .agg #[.bool nr94, .slice A95 n96 c97]) (vs := [.bool nr94, .slice A95 n96 c97]) (l := [.bool nr94, .slice A95 n96 c97]) (Z rfl) (Z rfl) sz88 rfl rfl rfl H129 rfl ?_)
     intro w130 s131 H132
     have E133 := below_st E126 N14 s131
     have H134 := (s131.blk H127 (by omega))
     have H135 := (s131.blk H128 (by omega))
     refine ⟨.inr ⟨H134, H135⟩, ?_⟩
     have H136 := (s131.blk (d125.ext.blk (s121.blk (e117.blk (s104.blk (e100.blk (e90.blk (d81.ext.blk (s73.blk (n68.ext.blk (e64.blk (s53.blk (n48.ext.blk H50) (by omega)))) (by omega))))) (by omega))) (by omega))) (by omega))
     refine aw_one 3 rfl (by kernel_rfl) .none (oe_store (v := .agg #[.bool nr111, .slice A112 n113 c114]) (vs := [.bool nr111, .slice A112 n113 c114]) (l := [.bool nr111, .slice A112 n113 c114]) (Z rfl) (Z rfl) sz88 rfl rfl rfl H136 rfl ?_)
     intro w137 s138 H139
     have E140 := below_st E133 N19 s138
     refine ⟨.inl rfl, ?_⟩
     refine aw_done (by kernel_rfl) ?_
     have H141 := (s138.blk H132 (by omega))
     refine rk_ret Try.func150 (v := .tuple #[.agg #[.bool nr94, .slice A95 n96 c97], .agg #[.bool nr111, .slice A112 n113 c114]]) (res2 Try.results150 (rv_cells (l := [.bool nr94, .slice A95 n96 c97]) agt88 sz88 rfl rfl H141 rfl) (rv_cells (l := [.bool nr111, .slice A112 n113 c114]) agt88 sz88 rfl rfl H139 rfl)) ⟨_, rfl, ?_⟩
     have h142 := ((((((h98.st s104 H102 (by decide)).ext e117).st s121 H119 (by decide)).ext d125.ext).st s131 H129 (by decide)).st s138 H136 (by decide))
     have h143 := ((((h115.st s121 H119 (by decide)).ext d125.ext).st s131 H129 (by decide)).st s138 H136 (by decide))
     have hov := over_neg ha.neg_iff hb.neg_iff hy (by exact hrn.1 (by assumption))
     exact ⟨_, _, _, _, _, _, _, _, rfl, E140, h142.tight (by rw [← hov.1, if_pos (by assumption)]) (natAbs_div_lt ha.lt), h143.tight (by rw [← hov.2]; have hh := hb.neg_iff.1 (by assumption); omega) (natAbs_mod_lt hb.lt hy)⟩
   refine rk_cf (T rfl (congrArg Value.bool hb79)) <| rk_seq <| rk_any (fun w => w.heap[b46]? = some (.cells #[.bool nb38, .slice A39 n40 c41] 88)) [3] mo ?_
   intro w144 d145
   have E146 := qe E75 d145.ext
   have H147 := (d145.ext.blk (s73.blk (n68.ext.blk H70) (by omega)))
   refine aw_load 0 (.agg #[.bool nb38, .slice A39 n40 c41]) rfl (by kernel_rfl) .none H147 (fun _ s => dv_loads (l := [.bool nb38, .slice A39 n40 c41]) agt88 sz88 (Z rfl) s rfl) <| aw_one 1 rfl (by kernel_rfl) .none (oe_callf (vs := [qi 1]) co99 (ar1 C) (l1Int_ok  (by omega)) ?_)
   rintro _ w153 ⟨nr148, A149, n150, c151, rfl, e154, h152⟩
   have E155 := qe E146 e154
   have lh152 := ql h152
   have H156 := (e154.blk H147)
   refine ⟨.inr H156, ?_⟩
   have h157 := (((((((hn42.ext n48.ext).st s53 n48.blk (by decide)).ext e64).ext n68.ext).st s73 n68.blk (by decide)).ext d145.ext).ext e154)
   refine aw_one 2 rfl (by kernel_rfl) .none (oe_callf (vs := [.agg #[.bool nb38, .slice A39 n40 c41], .agg #[.bool nr148, .slice A149 n150 c151]]) co129 (ar2 (Z rfl) (Z rfl)) (l1Sub_ok h157 h152 (by first | decide | omega) (by first | decide | omega)) ?_)
   rintro _ w163 ⟨nr158, A159, n160, c161, rfl, e164, h162⟩
   have E165 := qe E155 e164
   have lh162 := ql h162
   have H166 := (e164.blk H156)
   refine ⟨.inr H166, ?_⟩
   refine aw_one 3 rfl (by kernel_rfl) .none (oe_store (v := .agg #[.bool nr158, .slice A159 n160 c161]) (vs := [.bool nr158, .slice A159 n160 c161]) (l := [.bool nr158, .slice A159 n160 c161]) (Z rfl) (Z rfl) sz88 rfl rfl rfl H166 rfl ?_)
   intro w167 s168 H169
   have E170 := below_st E165 N49 s168
   refine ⟨.inl rfl, ?_⟩
   refine aw_done (by kernel_rfl) <| rk_reg ?_
   have H171 := (s168.blk (e164.blk (e154.blk (d145.ext.blk H74))) (by omega))
   refine lw_v (.agg #[.bool nb58, .slice A59 n60 c61]) (dv_loads (l := [.bool nb58, .slice A59 n60 c61]) agt88 sz88 (Z rfl) H171 rfl) ?_
   have H172 := (s168.blk (e164.blk (e154.blk (d145.ext.blk H78))) (by omega))
   refine lw_v (.agg #[.bool nb, .slice Ab lb cb]) (dv_loads (l := [.bool nb, .slice Ab lb cb]) agt88 sz88 (Z rfl) H172 rfl) ?_
   have h173 := ((((h76.ext d145.ext).ext e154).ext e164).st s168 H166 (by decide))
   have h174 := hb.ext E170
   refine lw_e (oe_callf (vs := [.agg #[.bool nb58, .slice A59 n60 c61], .agg #[.bool nb, .slice Ab lb cb]]) co137 (ar2 (Z rfl) (Z rfl)) (l1Add_ok h173 h174 (by first | decide | omega) (by first | decide | omega)) ?_)
   rintro _ w180 ⟨nr175, A176, n177, c178, rfl, e181, h179⟩
   have E182 := qe E170 e181
   have lh179 := ql h179
   have H183 := (e181.blk H171)
   refine lw_e (oe_store (v := .agg #[.bool nr175, .slice A176 n177 c178]) (vs := [.bool nr175, .slice A176 n177 c178]) (l := [.bool nr175, .slice A176 n177 c178]) (Z rfl) (Z rfl) sz88 rfl rfl rfl H183 rfl ?_)
   intro w184 s185 H186
   have E187 := below_st E182 N69 s185
   refine lw_nil <| rk_seq <| rk_any (fun w => w.heap[b46]? = some (.cells #[.bool nr158, .slice A159 n160 c161] 88) ∧ w.heap[b66]? = some (.cells #[.bool nr175, .slice A176 n177 c178] 88)) [3] mo ?_
   intro w188 d189
   have E190 := qe E187 d189.ext
   have H191 := (d189.ext.blk (s185.blk (e181.blk H169) (by omega)))
   have H192 := (d189.ext.blk H186)
   refine aw_load 0 (.agg #[.bool nr158, .slice A159 n160 c161]) rfl (by kernel_rfl) .none ⟨H191, H192⟩ (fun _ s => dv_loads (l := [.bool nr158, .slice A159 n160 c161]) agt88 sz88 (Z rfl) s.1 rfl) <| aw_load 1 (.agg #[.bool nr175, .slice A176 n177 c178]) rfl (by kernel_rfl) .none ⟨H191, H192⟩ (fun _ s => dv_loads (l := [.bool nr175, .slice A176 n177 c178]) agt88 sz88 (Z rfl) s.2 rfl) ?_
   have H193 := (d189.ext.blk (s185.blk (e181.blk (s168.blk (e164.blk (e154.blk (d145.ext.blk (s73.blk (n68.ext.blk (e64.blk (s53.blk (n48.ext.blk (e44.blk (e34.blk (n18.ext.blk n13.blk)))) (by omega)))) (by omega))))) (by omega))) (by omega)))
   refine aw_one 2 rfl (by kernel_rfl) .none (oe_store (v := .agg #[.bool nr158, .slice A159 n160 c161]) (vs := [.bool nr158, .slice A159 n160 c161]) (l := [.bool nr158, .slice A159 n160 c161]) (Z rfl) (Z rfl) sz88 rfl rfl rfl H193 rfl ?_)
   intro w194 s195 H196
   have E197 := below_st E190 N14 s195
   have H198 := (s195.blk H191 (by omega))
   have H199 := (s195.blk H192 (by omega))
   refine ⟨.inr ⟨H198, H199⟩, ?_⟩
   have H200 := (s195.blk (d189.ext.blk (s185.blk (e181.blk (s168.blk (e164.blk (e154.blk (d145.ext.blk (s73.blk (n68.ext.blk (e64.blk (s53.blk (n48.ext.blk H50) (by omega)))) (by omega))))) (by omega))) (by omega))) (by omega))
   refine aw_one 3 rfl (by kernel_rfl) .none (oe_store (v := .agg #[.bool nr175, .slice A176 n177 c178]) (vs := [.bool nr175, .slice A176 n177 c178]) (l := [.bool nr175, .slice A176 n177 c178]) (Z rfl) (Z rfl) sz88 rfl rfl rfl H200 rfl ?_)
   intro w201 s202 H203
   have E204 := below_st E197 N19 s202
   refine ⟨.inl rfl, ?_⟩
   refine aw_done (by kernel_rfl) ?_
   have H205 := (s202.blk H196 (by omega))
   refine rk_ret Try.func150 (v := .tuple #[.agg #[.bool nr158, .slice A159 n160 c161], .agg #[.bool nr175, .slice A176 n177 c178]]) (res2 Try.results150 (rv_cells (l := [.bool nr158, .slice A159 n160 c161]) agt88 sz88 rfl rfl H205 rfl) (rv_cells (l := [.bool nr175, .slice A176 n177 c178]) agt88 sz88 rfl rfl H203 rfl)) ⟨_, rfl, ?_⟩
   have h206 := ((((((h162.st s168 H166 (by decide)).ext e181).st s185 H183 (by decide)).ext d189.ext).st s195 H193 (by decide)).st s202 H200 (by decide))
   have h207 := ((((h179.st s185 H183 (by decide)).ext d189.ext).st s195 H193 (by decide)).st s202 H200 (by decide))
   have hov := over_neg ha.neg_iff hb.neg_iff hy (by exact hrn.1 (by assumption))
   exact ⟨_, _, _, _, _, _, _, _, rfl, E204, h206.tight (by rw [← hov.1, if_neg (by simp [*])]; omega) (natAbs_div_lt ha.lt), h207.tight (by rw [← hov.2]; have hh : ¬ y < 0 := (fun h => by have := hb.neg_iff.2 h; simp_all); omega) (natAbs_mod_lt hb.lt hy)⟩
 refine rk_cf (T rfl (congrArg Value.bool hb77)) <| rk_skip <| rk_seq <| rk_any (fun w => w.heap[b46]? = some (.cells #[.bool nb38, .slice A39 n40 c41] 88) ∧ w.heap[b66]? = some (.cells #[.bool nb58, .slice A59 n60 c61] 88)) [3] mo ?_
 intro w208 d209
 have E210 := qe E75 d209.ext
 have H211 := (d209.ext.blk (s73.blk (n68.ext.blk H70) (by omega)))
 have H212 := (d209.ext.blk H74)
 refine aw_load 0 (.agg #[.bool nb38, .slice A39 n40 c41]) rfl (by kernel_rfl) .none ⟨H211, H212⟩ (fun _ s => dv_loads (l := [.bool nb38, .slice A39 n40 c41]) agt88 sz88 (Z rfl) s.1 rfl) <| aw_load 1 (.agg #[.bool nb58, .slice A59 n60 c61]) rfl (by kernel_rfl) .none ⟨H211, H212⟩ (fun _ s => dv_loads (l := [.bool nb58, .slice A59 n60 c61]) agt88 sz88 (Z rfl) s.2 rfl) ?_
 have H213 := (d209.ext.blk (s73.blk (n68.ext.blk (e64.blk (s53.blk (n48.ext.blk (e44.blk (e34.blk (n18.ext.blk n13.blk)))) (by omega)))) (by omega)))
 refine aw_one 2 rfl (by kernel_rfl) .none (oe_store (v := .agg #[.bool nb38, .slice A39 n40 c41]) (vs := [.bool nb38, .slice A39 n40 c41]) (l := [.bool nb38, .slice A39 n40 c41]) (Z rfl) (Z rfl) sz88 rfl rfl rfl H213 rfl ?_)
 intro w214 s215 H216
 have E217 := below_st E210 N14 s215
 have H218 := (s215.blk H211 (by omega))
 have H219 := (s215.blk H212 (by omega))
 refine ⟨.inr ⟨H218, H219⟩, ?_⟩
 have H220 := (s215.blk (d209.ext.blk (s73.blk (n68.ext.blk (e64.blk (s53.blk (n48.ext.blk H50) (by omega)))) (by omega))) (by omega))
 refine aw_one 3 rfl (by kernel_rfl) .none (oe_store (v := .agg #[.bool nb58, .slice A59 n60 c61]) (vs := [.bool nb58, .slice A59 n60 c61]) (l := [.bool nb58, .slice A59 n60 c61]) (Z rfl) (Z rfl) sz88 rfl rfl rfl H220 rfl ?_)
 intro w221 s222 H223
 have E224 := below_st E217 N19 s222
 refine ⟨.inl rfl, ?_⟩
 refine aw_done (by kernel_rfl) ?_
 have H225 := (s222.blk H216 (by omega))
 refine rk_ret Try.func150 (v := .tuple #[.agg #[.bool nb38, .slice A39 n40 c41], .agg #[.bool nb58, .slice A59 n60 c61]]) (res2 Try.results150 (rv_cells (l := [.bool nb38, .slice A39 n40 c41]) agt88 sz88 rfl rfl H225 rfl) (rv_cells (l := [.bool nb58, .slice A59 n60 c61]) agt88 sz88 rfl rfl H223 rfl)) ⟨_, rfl, ?_⟩
 have h226 := ((((((((hn42.ext n48.ext).st s53 n48.blk (by decide)).ext e64).ext n68.ext).st s73 n68.blk (by decide)).ext d209.ext).st s215 H213 (by decide)).st s222 H220 (by decide))
 have h227 := (((h76.ext d209.ext).st s215 H213 (by decide)).st s222 H220 (by decide))
 have hov := over_pos ha.neg_iff hb.neg_iff hy (by exact fun hh => by have := hrn.2 hh; simp_all)
 exact ⟨_, _, _, _, _, _, _, _, rfl, E224, h226.tight hov.1 (natAbs_div_lt ha.lt), h227.tight hov.2 (natAbs_mod_lt hb.lt hy)⟩
theorem us172 : Try.prog.underlying 172 = some (.slice 107) := by kernel_rfl
set_option maxHeartbeats 1000000 in
theorem l1Gcd_ok {w : World} {na : Bool} {Aa : Option Addr} {la ca : Nat} {x : Int} {sx : Nat} (ha : Num 32 168 .u32 w na Aa la ca x sx) {nb : Bool} {Ab : Option Addr} {lb cb : Nat} {y : Int} {sy : Nat} (hb : Num 32 168 .u32 w nb Ab lb cb y sy) (hs : sx ≤ 200000) (hs2 : sy ≤ 200000) : Ct Try.prog 98 [.agg #[.bool na, .slice Aa la ca], .agg #[.bool nb, .slice Ab lb cb]] w fun v w1 => ∃ nr A' n c', v = .agg #[.bool nr, .slice A' n c'] ∧ Ext w w1 ∧ Num 32 168 .u32 w1 nr A' n c' (gI x y) (max sx sy) := by
 refine ct_run (n := 26) Try.func98 rfl Try.ntmps98 rfl ?_
 have E0 : Below w.heap.size w w := Below.refl _ _
 have lha := ql ha
 have lhb := ql hb
 refine rk_seq <| rk_reg <| lw_e (oe_box (v := .agg #[.bool na, .slice Aa la ca]) (cs := #[.bool na, .slice Aa la ca]) (Z rfl) rfl ?_)
 intro b1 w2 n3
 have N4 : w.heap.size ≤ b1 := n3.eq ▸ E0.size
 have E5 := qe E0 n3.ext
 refine lw_e (oe_box (v := .agg #[.bool nb, .slice Ab lb cb]) (cs := #[.bool nb, .slice Ab lb cb]) (Z rfl) rfl ?_)
 intro b6 w7 n8
 have N9 : w.heap.size ≤ b6 := n8.eq ▸ E5.size
 have : b1 < b6 := n8.eq ▸ lt_of_blk n3.blk
 have E10 := qe E5 n8.ext
 refine lw_e (oe_alloc ze88 ?_)
 intro b11 w12 n13
 have N14 : w.heap.size ≤ b11 := n13.eq ▸ E10.size
 have : b6 < b11 := n13.eq ▸ lt_of_blk n8.blk
 have E15 := qe E10 n13.ext
 refine qN <| lw_v (.pointer (some ⟨b1, 1, none⟩)) (dv_fieldAddr (a := ⟨b1, 0, none⟩) (a' := ⟨b1, 1, none⟩) fo88_1 (Z rfl) rfl) ?_
 have H16 := (n13.ext.blk (n8.ext.blk n3.blk))
 refine lw_v (.slice Aa la ca) (dv_load1 (b := b1) (o := 1) agt86 (Z rfl) H16 rfl) <| qs (.slice Aa la ca) rfl rfl <| qN <| lw_v (.pointer (some ⟨b6, 1, none⟩)) (dv_fieldAddr (a := ⟨b6, 0, none⟩) (a' := ⟨b6, 1, none⟩) fo88_1 (Z rfl) rfl) ?_
 have H17 := (n13.ext.blk n8.blk)
 refine lw_v (.slice Ab lb cb) (dv_load1 (b := b6) (o := 1) agt86 (Z rfl) H17 rfl) <| qs (.slice Ab lb cb) rfl rfl <| lw_nil <| rk_seq <| rk_block ?_
 have h26 := (((ha.ext n3.ext).ext n8.ext).ext n13.ext)
 have h27 := (((hb.ext n3.ext).ext n8.ext).ext n13.ext)
 refine rk_loop (fun dm_ fr wl => ∃ (Ax18 : Option Addr) (lx19 cx20 : Nat) (Ay21 : Option Addr) (ly22 cy23 : Nat) (X24 Y25 : Int), dm_ = Y25.toNat ∧ fr 4 = .pointer (some ⟨b11, 0, none⟩) ∧ fr 5 = .slice Ax18 lx19 cx20 ∧ fr 6 = .slice Ay21 ly22 cy23 ∧ Below w.heap.size w wl ∧ wl.heap[b1]? = some (.cells #[.bool na, .slice Aa la ca] 88) ∧ wl.heap[b6]? = some (.cells #[.bool nb, .slice Ab lb cb] 88) ∧ wl.heap[b11]? = some (.cells #[.bool false, .slice none 0 0] 88) ∧ Wc 32 168 .u32 wl Ax18 lx19 cx20 X24 ∧ Wc 32 168 .u32 wl Ay21 ly22 cy23 Y25 ∧ (gI X24 Y25 = gI (x.natAbs : Int) (y.natAbs : Int)) ∧ (X24 < 2 ^ (max sx sy)) ∧ (Y25 < 2 ^ (max sx sy))) ((y.natAbs : Int).toNat) ⟨Aa, la, ca, Ab, lb, cb, (x.natAbs : Int), (y.natAbs : Int), rfl, rfl, rfl, rfl, E15, H16, H17, n13.blk, h26.wc, h27.wc, rfl, (Int.lt_of_lt_of_le h26.ltI (pow_le_of (by decide) (by omega))), (Int.lt_of_lt_of_le h27.ltI (pow_le_of (by decide) (by omega)))⟩ ?_
 intro d32 fr31 w28 hI29 ih30
 obtain ⟨Ax18, lx19, cx20, Ay21, ly22, cy23, X24, Y25, hd42, f33, f34, f35, E36, H37, H38, H39, h40, h41, hgc, hXs, hYs⟩ := hI29
 have hXp := h40.nonneg
 have hYp := h41.pos
 have hYn := h41.nonneg
 have hlx := Wc.len (by decide) h40 hXs
 have hly := Wc.len (by decide) h41 hYs
 refine rk_seq <| rk_seq <| rk_reg <| qm (.slice Ay21 ly22 cy23) rfl f35 <| lw_v (qi (ly22 : Int)) (dv_len (ad := Ay21) (l := ly22) (c := cy23) us86 (Z rfl)) <| lw_v _ (dv_gtr (a := (ly22 : Int)) (b := 0) (Z rfl) C) <| lw_nil ?_
 by_cases hb43 : 0 < ((ly22 : Int))
 · refine rk_ct (T rfl (qT hb43)) <| rk_skip <| rk_block <| rk_seq <| rk_reg <| qm (.slice Ax18 lx19 cx20) rfl f34 <| qm (.slice Ay21 ly22 cy23) rfl f35 <| lw_e (oe_callf (vs := [.slice Ax18 lx19 cx20, .slice Ay21 ly22 cy23]) co130 (ar2 (Z rfl) (Z rfl)) (l1DivAbs_ok h40 h41 (by omega) hXs hYs (by omega) (by omega)) ?_)
   rintro _ w52 ⟨A44, n45, c46, A47, n48, c49, rfl, e53, h50, h51⟩
   have E54 := qe E36 e53
   have lh50 := Wc.len (by decide) h50 (div_sz (Wc.nonneg h40) (by omega) hXs)
   have lh51 := Wc.len (by decide) h51 (mod_sz (by omega) hYs)
   refine qm (.tuple #[.slice A44 n45 c46, .slice A47 n48 c49]) rfl rfl <| lw_v (.slice A44 n45 c46) (dv_extract (vs := #[.slice A44 n45 c46, .slice A47 n48 c49]) (Z rfl) rfl) <| lw_v (.slice A47 n48 c49) (dv_extract (vs := #[.slice A44 n45 c46, .slice A47 n48 c49]) (Z rfl) rfl) <| qs (.slice A44 n45 c46) rfl rfl <| qs (.slice A47 n48 c49) rfl rfl <| lw_nil <| rk_reg <| qm (.slice Ay21 ly22 cy23) rfl f35 <| qm (.slice A47 n48 c49) rfl rfl <| qs (.slice Ay21 ly22 cy23) rfl rfl <| qs (.slice A47 n48 c49) rfl rfl <| lw_nil <| rk_inBlock ?_
   have h55 := (h41.ext e53)
   have hml := Int.emod_lt_of_pos X24 (hYp.1 (by omega))
   have hmn := Int.emod_nonneg X24 (show Y25 ≠ 0 by omega)
   have H56 := (e53.blk H37)
   have H57 := (e53.blk H38)
   have H58 := (e53.blk H39)
   exact ih30 ((X24 % Y25).toNat) _ _ (by rw [hd42]; omega) ⟨Ay21, ly22, cy23, A47, n48, c49, Y25, (X24 % Y25), rfl, f33, rfl, rfl, E54, H56, H57, H58, h55, h51, (by rw [gI_step]; exact hgc), hYs, (by omega)⟩
 refine rk_cf (T rfl (qF hb43)) <| rk_exit rfl <| rk_seq <| rk_reg <| qm (.slice Ax18 lx19 cx20) rfl f34 <| lw_e (oe_callf (vs := [.bool false, .slice Ax18 lx19 cx20]) co131 (ar2 C (Z rfl)) (l1Trim_num (s := (max sx sy)) (neg := false) h40.ws (by first | omega | simp <;> omega) hXs) ?_)
 rintro _ w64 ⟨nb59, A60, n61, c62, rfl, e65, hn63⟩
 have E66 := qe E36 e65
 have lhn63 := ql hn63
 have H67 := (e65.blk H39)
 refine lw_e (oe_store (v := .agg #[.bool nb59, .slice A60 n61 c62]) (vs := [.bool nb59, .slice A60 n61 c62]) (l := [.bool nb59, .slice A60 n61 c62]) (T rfl f33) (Z rfl) sz88 rfl rfl rfl H67 rfl ?_)
 intro w68 s69 H70
 have E71 := below_st E66 N14 s69
 refine lw_nil <| rk_ret Try.func98 (v := .agg #[.bool nb59, .slice A60 n61 c62]) (res1 Try.results98 (rv_cells (l := [.bool nb59, .slice A60 n61 c62]) agt88 sz88 rfl f33 H70 rfl)) ⟨_, rfl, ?_⟩
 have h72 := (hn63.st s69 H67 (by decide))
 have hY0 : Y25 = 0 := by omega
 rw [hY0, gI_zero, gI_abs] at hgc
 exact ⟨_, _, _, _, rfl, E71, h72.to (by simp only [sg]; simp; omega) (Nat.le_refl _)⟩
set_option maxHeartbeats 1000000 in
theorem gcd3_ok {w : World} {bl : Nat} {na : Bool} {Aa : Option Addr} {la ca : Nat} {x : Int} {sx : Nat} (ha : Num 64 36 .u64 w na Aa la ca x sx) {nb : Bool} {Ab : Option Addr} {lb cb : Nat} {y : Int} {sy : Nat} (hb : Num 64 36 .u64 w nb Ab lb cb y sy) {nm : Bool} {Am : Option Addr} {lm cm : Nat} {z : Int} {sz : Nat} (hm : Num 64 36 .u64 w nm Am lm cm z sz) (hsx : sx ≤ 200000) (hsy : sy ≤ 200000) (hsz : sz ≤ 200000) (hL : w.heap[bl]? = some (.cells #[.bool na, .slice Aa la ca, .bool nb, .slice Ab lb cb, .bool nm, .slice Am lm cm] 107)) : Ct Try.prog 105 [.slice (some ⟨bl, 0, none⟩) 3 3] w fun v w1 => ∃ nr A' n c', v = .agg #[.bool nr, .slice A' n c'] ∧ Ext w w1 ∧ Num 64 36 .u64 w1 nr A' n c' (gI3 x y z) (max sx (max sy sz)) := by
 refine ct_run (n := 37) Try.func105 rfl Try.ntmps105 rfl ?_
 have E0 : Below w.heap.size w w := Below.refl _ _
 have lha := ql ha
 have lhb := ql hb
 have lhm := ql hm
 refine rk_seq <| rk_reg <| lw_e (oe_alloc ze107 ?_)
 intro b1 w2 n3
 have N4 : w.heap.size ≤ b1 := n3.eq ▸ E0.size
 have : bl < b1 := n3.eq ▸ lt_of_blk hL
 have E5 := qe E0 n3.ext
 refine qN <| lw_v (.agg #[.bool false, .slice none 0 0]) (dv_build (pv := []) (l := [.bool false, .slice none 0 0]) zc107 pl107 trivial rfl) <| lw_e (oe_alloc ze107 ?_)
 intro b6 w7 n8
 have N9 : w.heap.size ≤ b6 := n8.eq ▸ E5.size
 have : b1 < b6 := n8.eq ▸ lt_of_blk n3.blk
 have E10 := qe E5 n8.ext
 refine lw_e (oe_store (v := .agg #[.bool false, .slice none 0 0]) (vs := [.bool false, .slice none 0 0]) (l := [.bool false, .slice none 0 0]) (Z rfl) (Z rfl) sz107 rfl rfl rfl n8.blk rfl ?_)
 intro w11 s12 H13
 have E14 := below_st E10 N9 s12
 refine lw_nil <| rk_seq <| rk_seq <| rk_reg <| qm (.slice (some ⟨bl, 0, none⟩) 3 3) rfl rfl <| lw_v (qi 3) (dv_len (ad := some ⟨bl, 0, none⟩) (l := 3) (c := 3) us172 (Z rfl)) <| lw_v (qi 0) (dv_move C) <| lw_nil <| rk_block <| rk_unroll <| rk_seq <| rk_reg <| lw_v _ (dv_lss (a := 0) (b := 3) (Z rfl) (Z rfl)) <| lw_nil <| rk_seq <| rk_ct (T rfl (rfl)) <| rk_skip <| rk_seq <| rk_block <| rk_seq <| rk_reg <| lw_v (.pointer (some ⟨bl, 0, none⟩)) (dv_indexAddr (a := ⟨bl, 0, none⟩) (a' := ⟨bl, 0, none⟩) (l := 3) (c := 3) (j := 0) us172 sz107 (Z rfl) (Z rfl) (by decide) (by decide) rfl) ?_
 have H15 := (s12.blk (n8.ext.blk (n3.ext.blk hL)) (by omega))
 refine lw_v (.agg #[.bool na, .slice Aa la ca]) (dv_loads (l := [.bool na, .slice Aa la ca]) agt107 sz107 (Z rfl) H15 rfl) <| lw_e (oe_alloc ze107 ?_)
 intro b16 w17 n18
 have N19 : w.heap.size ≤ b16 := n18.eq ▸ E14.size
 have : b6 < b16 := n18.eq ▸ lt_of_blk H13
 have E20 := qe E14 n18.ext
 refine lw_e (oe_store (v := .agg #[.bool na, .slice Aa la ca]) (vs := [.bool na, .slice Aa la ca]) (l := [.bool na, .slice Aa la ca]) (Z rfl) (Z rfl) sz107 rfl rfl rfl n18.blk rfl ?_)
 intro w21 s22 H23
 have E24 := below_st E20 N19 s22
 refine lw_nil <| rk_seq <| rk_any (fun w => w.heap[b6]? = some (.cells #[.bool false, .slice none 0 0] 107) ∧ w.heap[b16]? = some (.cells #[.bool na, .slice Aa la ca] 107)) [5] mo ?_
 intro w25 d26
 have E27 := qe E24 d26.ext
 have H28 := (d26.ext.blk (s22.blk (n18.ext.blk H13) (by omega)))
 have H29 := (d26.ext.blk H23)
 refine aw_pure 0 (.pointer (some ⟨b6, 1, none⟩)) rfl (by kernel_rfl) .none ⟨H28, H29⟩ (fun _ => dv_fieldAddr (a := ⟨b6, 0, none⟩) (a' := ⟨b6, 1, none⟩) fo107_1 (Z rfl) rfl) <| aw_load 1 (.slice none 0 0) rfl (by kernel_rfl) .none ⟨H28, H29⟩ (fun _ s => dv_load1 (b := b6) (o := 1) agt105 (Z rfl) s.1 rfl) <| aw_pure 2 (.pointer (some ⟨b16, 1, none⟩)) rfl (by kernel_rfl) .none ⟨H28, H29⟩ (fun _ => dv_fieldAddr (a := ⟨b16, 0, none⟩) (a' := ⟨b16, 1, none⟩) fo107_1 (Z rfl) rfl) <| aw_load 3 (.slice Aa la ca) rfl (by kernel_rfl) .none ⟨H28, H29⟩ (fun _ s => dv_load1 (b := b16) (o := 1) agt105 (Z rfl) s.2 rfl) <| aw_pure 4 (.slice none 0 0) rfl (by kernel_rfl) .none ⟨H28, H29⟩ (fun _ => dv_assign (Z rfl)) <| aw_last 5 (.slice Aa la ca) rfl (by kernel_rfl) .none (fun _ => dv_assign (Z rfl)) <| aw_done (by kernel_rfl) <| rk_seq <| rk_block ?_
 have h38 := ha.ext E27
 have H39 := (d26.ext.blk (s22.blk (n18.ext.blk H15) (by omega)))
 have H40 := (d26.ext.blk (s22.blk (n18.ext.blk (s12.blk (n8.ext.blk n3.blk) (by omega))) (by omega)))
 refine rk_loop (fun dm_ fr wl => ∃ (Ax30 : Option Addr) (lx31 cx32 : Nat) (Ay33 : Option Addr) (ly34 cy35 : Nat) (X36 Y37 : Int), dm_ = Y37.toNat ∧ fr 2 = .pointer (some ⟨b1, 0, none⟩) ∧ fr 3 = .pointer (some ⟨b6, 0, none⟩) ∧ fr 5 = .pointer (some ⟨b16, 0, none⟩) ∧ fr 6 = .slice Ax30 lx31 cx32 ∧ fr 7 = .slice Ay33 ly34 cy35 ∧ fr 11 = .slice (some ⟨bl, 0, none⟩) 3 3 ∧ fr 12 = qi 3 ∧ fr 13 = qi 0 ∧ fr 14 = qd (((0 : Int) < 3 : Prop)) ∧ fr 15 = .pointer (some ⟨bl, 0, none⟩) ∧ fr 16 = .agg #[.bool na, .slice Aa la ca] ∧ fr 17 = .pointer (some ⟨b6, 1, none⟩) ∧ fr 18 = .slice none 0 0 ∧ fr 19 = .pointer (some ⟨b16, 1, none⟩) ∧ fr 20 = .slice Aa la ca ∧ Below w.heap.size w wl ∧ wl.heap[bl]? = some (.cells #[.bool na, .slice Aa la ca, .bool nb, .slice Ab lb cb, .bool nm, .slice Am lm cm] 107) ∧ wl.heap[b1]? = some (.cells #[.bool false, .slice none 0 0] 107) ∧ wl.heap[b6]? = some (.cells #[.bool false, .slice none 0 0] 107) ∧ wl.heap[b16]? = some (.cells #[.bool na, .slice Aa la ca] 107) ∧ Wc 64 36 .u64 wl Ax30 lx31 cx32 X36 ∧ Wc 64 36 .u64 wl Ay33 ly34 cy35 Y37 ∧ (gI X36 Y37 = gI 0 (x.natAbs : Int)) ∧ (X36 < 2 ^ (max sx (max sy sz))) ∧ (Y37 < 2 ^ (max sx (max sy sz)))) ((x.natAbs : Int).toNat) ⟨none, 0, 0, Aa, la, ca, 0, (x.natAbs : Int), rfl, rfl, rfl, rfl, rfl, rfl, rfl, rfl, rfl, rfl, rfl, rfl, rfl, rfl, rfl, rfl, E27, H39, H40, H28, H29, Wc.zero, h38.wc, rfl, (two_pos _), (Int.lt_of_lt_of_le h38.ltI (pow_le_of (by decide) (by omega)))⟩ ?_
 intro d45 fr44 w41 hI42 ih43
 obtain ⟨Ax30, lx31, cx32, Ay33, ly34, cy35, X36, Y37, hd68, f46, f47, f48, f49, f50, f51, f52, f53, f54, f55, f56, f57, f58, f59, f60, E61, H62, H63, H64, H65, h66, h67, hgc, hXs, hYs⟩ := hI42
 have hXp := h66.nonneg
 have hYp := h67.pos
 have hYn := h67.nonneg
 have hlx := Wc.len (by decide) h66 hXs
 have hly := Wc.len (by decide) h67 hYs
 refine rk_seq <| rk_seq <| rk_reg <| qm (.slice Ay33 ly34 cy35) rfl f50 <| lw_v (qi (ly34 : Int)) (dv_len (ad := Ay33) (l := ly34) (c := cy35) us105 (Z rfl)) <| lw_v _ (dv_gtr (a := (ly34 : Int)) (b := 0) (Z rfl) C) <| lw_nil ?_
 by_cases hb69 : 0 < ((ly34 : Int))
 · refine rk_ct (T rfl (qT hb69)) <| rk_skip <| rk_block <| rk_seq <| rk_reg <| qm (.slice Ax30 lx31 cx32) rfl f49 <| qm (.slice Ay33 ly34 cy35) rfl f50 <| lw_e (oe_callf (vs := [.slice Ax30 lx31 cx32, .slice Ay33 ly34 cy35]) co135 (ar2 (Z rfl) (Z rfl)) (divWords_ok h66 h67 (by omega) (by first | omega | simp <;> omega) (by first | omega | simp <;> omega)) ?_)
   rintro _ w78 ⟨A70, n71, c72, A73, n74, c75, rfl, e79, h76, h77⟩
   have E80 := qe E61 e79
   have lh76 := Wc.len (by decide) h76 (div_sz (Wc.nonneg h66) (by omega) hXs)
   have lh77 := Wc.len (by decide) h77 (mod_sz (by omega) hYs)
   refine qm (.tuple #[.slice A70 n71 c72, .slice A73 n74 c75]) rfl rfl <| lw_v (.slice A70 n71 c72) (dv_extract (vs := #[.slice A70 n71 c72, .slice A73 n74 c75]) (Z rfl) rfl) <| lw_v (.slice A73 n74 c75) (dv_extract (vs := #[.slice A70 n71 c72, .slice A73 n74 c75]) (Z rfl) rfl) <| qs (.slice A70 n71 c72) rfl rfl <| qs (.slice A73 n74 c75) rfl rfl <| lw_nil <| rk_reg <| qm (.slice Ay33 ly34 cy35) rfl f50 <| qm (.slice A73 n74 c75) rfl rfl ?_
   obtain ⟨xs81, hl82, hc83, hw84, ho85, hk86, hv87⟩ := h77
   have H88 := (e79.blk H62)
   have : bl < w78.heap.size := lt_of_blk H88
   have H89 := (e79.blk H63)
   have : b1 < w78.heap.size := lt_of_blk H89
   have H90 := (e79.blk H64)
   have : b6 < w78.heap.size := lt_of_blk H90
   have H91 := (e79.blk H65)
   have : b16 < w78.heap.size := lt_of_blk H91
   have N92 : w.heap.size ≤ w78.heap.size := E80.size
   refine lw_e (oe_callf (vs := [.slice A73 n74 c75]) co136 (ar1 (Z rfl)) (clone_ok hw84 hl82 (by first | omega | simp <;> omega)) ?_)
   rintro _ w96 ⟨Ad93, c94, rfl, e97, hO95⟩
   have E98 := qe E80 e97
   refine qs (.slice Ay33 ly34 cy35) rfl rfl <| qs (.slice Ad93 (xs81.length) c94) rfl rfl <| lw_nil <| rk_inBlock ?_
   have h99 := ((h67.ext e79).ext e97)
   have hml := Int.emod_lt_of_pos X36 (hYp.1 (by omega))
   have hmn := Int.emod_nonneg X36 (show Y37 ≠ 0 by omega)
   have H100 := (e97.blk H88)
   have H101 := (e97.blk H89)
   have H102 := (e97.blk H90)
   have H103 := (e97.blk H91)
   exact ih43 ((X36 % Y37).toNat) _ _ (by rw [hd68]; omega) ⟨Ay33, ly34, cy35, Ad93, xs81.length, c94, Y37, (X36 % Y37), rfl, f46, f47, f48, rfl, rfl, f51, f52, f53, f54, f55, f56, f57, f58, f59, f60, E98, H100, H101, H102, H103, h99, ⟨xs81, rfl, hO95.cap, hO95.wd, ho85, hk86, hv87⟩, (by rw [gI_step]; exact hgc), hYs, (by omega)⟩
 refine rk_cf (T rfl (qF hb69)) <| rk_exit rfl ?_
 have hY0 : Y37 = 0 := by omega
 rw [hY0, gI_zero] at hgc
 have hr104 : X36 = (x.natAbs : Int) := (by have h := hgc; rw [gI_zl] at h; (try simp at h); omega)
 have hw105 := Wc.eq h66 hr104
 have hq106 : (x.natAbs : Int) < 2 ^ (max sx (max sy sz)) := by rw [← hr104]; exact hXs
 refine rk_reg <| qm (.slice Ax30 lx31 cx32) rfl f49 <| lw_v (.agg #[.bool false, .slice Ax30 lx31 cx32]) (dv_build (pv := [(0, .bool false), (1, .slice Ax30 lx31 cx32)]) (l := [.bool false, .slice Ax30 lx31 cx32]) zc107 pl107 ⟨rfl, C, ⟨rfl, (Z rfl), trivial⟩⟩ rfl) <| lw_e (oe_store (v := .agg #[.bool false, .slice Ax30 lx31 cx32]) (vs := [.bool false, .slice Ax30 lx31 cx32]) (l := [.bool false, .slice Ax30 lx31 cx32]) (T rfl f47) (Z rfl) sz107 rfl rfl rfl H64 rfl ?_)
 intro w107 s108 H109
 have E110 := below_st E61 N9 s108
 refine lw_nil <| rk_inBlock <| rk_reg <| lw_v _ (dv_add (a := 0) (b := 1) (z := 1) (T rfl f53) C (by decide)) <| qm (qi 1) rfl rfl <| lw_nil <| rk_inLoop <| rk_seq <| rk_reg <| lw_v _ (dv_lss (a := 1) (b := 3) (Z rfl) (T rfl f52)) <| lw_nil <| rk_seq <| rk_ct (T rfl (rfl)) <| rk_skip <| rk_seq <| rk_block <| rk_seq <| rk_reg <| lw_v (.pointer (some ⟨bl, 2, none⟩)) (dv_indexAddr (a := ⟨bl, 0, none⟩) (a' := ⟨bl, 2, none⟩) (l := 3) (c := 3) (j := 1) us172 sz107 (T rfl f51) (Z rfl) (by decide) (by decide) rfl) ?_
 have H111 := (s108.blk H62 (by omega))
 refine lw_v (.agg #[.bool nb, .slice Ab lb cb]) (dv_loads (l := [.bool nb, .slice Ab lb cb]) agt107 sz107 (Z rfl) H111 rfl) <| lw_e (oe_alloc ze107 ?_)
 intro b112 w113 n114
 have N115 : w.heap.size ≤ b112 := n114.eq ▸ E110.size
 have H116 := (s108.blk H65 (by omega))
 have : b16 < b112 := n114.eq ▸ lt_of_blk H116
 have E117 := qe E110 n114.ext
 refine lw_e (oe_store (v := .agg #[.bool nb, .slice Ab lb cb]) (vs := [.bool nb, .slice Ab lb cb]) (l := [.bool nb, .slice Ab lb cb]) (Z rfl) (Z rfl) sz107 rfl rfl rfl n114.blk rfl ?_)
 intro w118 s119 H120
 have E121 := below_st E117 N115 s119
 refine lw_nil <| rk_seq <| rk_any (fun w => w.heap[b6]? = some (.cells #[.bool false, .slice Ax30 lx31 cx32] 107) ∧ w.heap[b112]? = some (.cells #[.bool nb, .slice Ab lb cb] 107)) [5] mo ?_
 intro w122 d123
 have E124 := qe E121 d123.ext
 have H125 := (d123.ext.blk (s119.blk (n114.ext.blk H109) (by omega)))
 have H126 := (d123.ext.blk H120)
 refine aw_pure 0 (.pointer (some ⟨b6, 1, none⟩)) rfl (by kernel_rfl) .none ⟨H125, H126⟩ (fun _ => dv_fieldAddr (a := ⟨b6, 0, none⟩) (a' := ⟨b6, 1, none⟩) fo107_1 (T rfl f47) rfl) <| aw_load 1 (.slice Ax30 lx31 cx32) rfl (by kernel_rfl) .none ⟨H125, H126⟩ (fun _ s => dv_load1 (b := b6) (o := 1) agt105 (Z rfl) s.1 rfl) <| aw_pure 2 (.pointer (some ⟨b112, 1, none⟩)) rfl (by kernel_rfl) .none ⟨H125, H126⟩ (fun _ => dv_fieldAddr (a := ⟨b112, 0, none⟩) (a' := ⟨b112, 1, none⟩) fo107_1 (Z rfl) rfl) <| aw_load 3 (.slice Ab lb cb) rfl (by kernel_rfl) .none ⟨H125, H126⟩ (fun _ s => dv_load1 (b := b112) (o := 1) agt105 (Z rfl) s.2 rfl) <| aw_pure 4 (.slice Ax30 lx31 cx32) rfl (by kernel_rfl) .none ⟨H125, H126⟩ (fun _ => dv_assign (Z rfl)) <| aw_last 5 (.slice Ab lb cb) rfl (by kernel_rfl) .none (fun _ => dv_assign (Z rfl)) <| aw_done (by kernel_rfl) <| rk_seq <| rk_block ?_
 have h135 := ((((hw105.st s108 H64 (by decide)).ext n114.ext).st s119 n114.blk (by decide)).ext d123.ext)
 have h136 := hb.ext E124
 have H137 := (d123.ext.blk (s119.blk (n114.ext.blk H111) (by omega)))
 have H138 := (d123.ext.blk (s119.blk (n114.ext.blk (s108.blk H63 (by omega))) (by omega)))
 have H139 := (d123.ext.blk (s119.blk (n114.ext.blk H116) (by omega)))
 refine rk_loop (fun dm_ fr wl => ∃ (Ax127 : Option Addr) (lx128 cx129 : Nat) (Ay130 : Option Addr) (ly131 cy132 : Nat) (X133 Y134 : Int), dm_ = Y134.toNat ∧ fr 2 = .pointer (some ⟨b1, 0, none⟩) ∧ fr 3 = .pointer (some ⟨b6, 0, none⟩) ∧ fr 5 = .pointer (some ⟨b112, 0, none⟩) ∧ fr 6 = .slice Ax127 lx128 cx129 ∧ fr 7 = .slice Ay130 ly131 cy132 ∧ fr 11 = .slice (some ⟨bl, 0, none⟩) 3 3 ∧ fr 12 = qi 3 ∧ fr 13 = qi 1 ∧ fr 14 = qd (((1 : Int) < 3 : Prop)) ∧ fr 15 = .pointer (some ⟨bl, 2, none⟩) ∧ fr 16 = .agg #[.bool nb, .slice Ab lb cb] ∧ fr 17 = .pointer (some ⟨b6, 1, none⟩) ∧ fr 18 = .slice Ax30 lx31 cx32 ∧ fr 19 = .pointer (some ⟨b112, 1, none⟩) ∧ fr 20 = .slice Ab lb cb ∧ fr 33 = .slice Ax30 lx31 cx32 ∧ fr 34 = .agg #[.bool false, .slice Ax30 lx31 cx32] ∧ fr 35 = qi 1 ∧ Below w.heap.size w wl ∧ wl.heap[bl]? = some (.cells #[.bool na, .slice Aa la ca, .bool nb, .slice Ab lb cb, .bool nm, .slice Am lm cm] 107) ∧ wl.heap[b1]? = some (.cells #[.bool false, .slice none 0 0] 107) ∧ wl.heap[b6]? = some (.cells #[.bool false, .slice Ax30 lx31 cx32] 107) ∧ wl.heap[b16]? = some (.cells #[.bool na, .slice Aa la ca] 107) ∧ wl.heap[b112]? = some (.cells #[.bool nb, .slice Ab lb cb] 107) ∧ Wc 64 36 .u64 wl Ax127 lx128 cx129 X133 ∧ Wc 64 36 .u64 wl Ay130 ly131 cy132 Y134 ∧ (gI X133 Y134 = gI (x.natAbs : Int) (y.natAbs : Int)) ∧ (X133 < 2 ^ (max sx (max sy sz))) ∧ (Y134 < 2 ^ (max sx (max sy sz)))) ((y.natAbs : Int).toNat) ⟨Ax30, lx31, cx32, Ab, lb, cb, (x.natAbs : Int), (y.natAbs : Int), rfl, f46, f47, rfl, rfl, rfl, f51, f52, rfl, rfl, rfl, rfl, rfl, rfl, rfl, rfl, rfl, rfl, rfl, E124, H137, H138, H125, H139, H126, h135, h136.wc, rfl, hq106, (Int.lt_of_lt_of_le h136.ltI (pow_le_of (by decide) (by omega)))⟩ ?_
 intro d144 fr143 w140 hI141 ih142
 obtain ⟨Ax127, lx128, cx129, Ay130, ly131, cy132, X133, Y134, hd171, f145, f146, f147, f148, f149, f150, f151, f152, f153, f154, f155, f156, f157, f158, f159, f160, f161, f162, E163, H164, H165, H166, H167, H168, h169, h170, hgc, hXs, hYs⟩ := hI141
 have hXp := h169.nonneg
 have hYp := h170.pos
 have hYn := h170.nonneg
 have hlx := Wc.len (by decide) h169 hXs
 have hly := Wc.len (by decide) h170 hYs
 refine rk_seq <| rk_seq <| rk_reg <| qm (.slice Ay130 ly131 cy132) rfl f149 <| lw_v (qi (ly131 : Int)) (dv_len (ad := Ay130) (l := ly131) (c := cy132) us105 (Z rfl)) <| lw_v _ (dv_gtr (a := (ly131 : Int)) (b := 0) (Z rfl) C) <| lw_nil ?_
 by_cases hb172 : 0 < ((ly131 : Int))
 · refine rk_ct (T rfl (qT hb172)) <| rk_skip <| rk_block <| rk_seq <| rk_reg <| qm (.slice Ax127 lx128 cx129) rfl f148 <| qm (.slice Ay130 ly131 cy132) rfl f149 <| lw_e (oe_callf (vs := [.slice Ax127 lx128 cx129, .slice Ay130 ly131 cy132]) co135 (ar2 (Z rfl) (Z rfl)) (divWords_ok h169 h170 (by omega) (by first | omega | simp <;> omega) (by first | omega | simp <;> omega)) ?_)
   rintro _ w181 ⟨A173, n174, c175, A176, n177, c178, rfl, e182, h179, h180⟩
   have E183 := qe E163 e182
   have lh179 := Wc.len (by decide) h179 (div_sz (Wc.nonneg h169) (by omega) hXs)
   have lh180 := Wc.len (by decide) h180 (mod_sz (by omega) hYs)
   refine qm (.tuple #[.slice A173 n174 c175, .slice A176 n177 c178]) rfl rfl <| lw_v (.slice A173 n174 c175) (dv_extract (vs := #[.slice A173 n174 c175, .slice A176 n177 c178]) (Z rfl) rfl) <| lw_v (.slice A176 n177 c178) (dv_extract (vs := #[.slice A173 n174 c175, .slice A176 n177 c178]) (Z rfl) rfl) <| qs (.slice A173 n174 c175) rfl rfl <| qs (.slice A176 n177 c178) rfl rfl <| lw_nil <| rk_reg <| qm (.slice Ay130 ly131 cy132) rfl f149 <| qm (.slice A176 n177 c178) rfl rfl ?_
   obtain ⟨xs184, hl185, hc186, hw187, ho188, hk189, hv190⟩ := h180
   have H191 := (e182.blk H164)
   have : bl < w181.heap.size := lt_of_blk H191
   have H192 := (e182.blk H165)
   have : b1 < w181.heap.size := lt_of_blk H192
   have H193 := (e182.blk H166)
   have : b6 < w181.heap.size := lt_of_blk H193
   have H194 := (e182.blk H167)
   have : b16 < w181.heap.size := lt_of_blk H194
   have H195 := (e182.blk H168)
   have : b112 < w181.heap.size := lt_of_blk H195
   have N196 : w.heap.size ≤ w181.heap.size := E183.size
   refine lw_e (oe_callf (vs := [.slice A176 n177 c178]) co136 (ar1 (Z rfl)) (clone_ok hw187 hl185 (by first | omega | simp <;> omega)) ?_)
   rintro _ w200 ⟨Ad197, c198, rfl, e201, hO199⟩
   have E202 := qe E183 e201
   refine qs (.slice Ay130 ly131 cy132) rfl rfl <| qs (.slice Ad197 (xs184.length) c198) rfl rfl <| lw_nil <| rk_inBlock ?_
   have h203 := ((h170.ext e182).ext e201)
   have hml := Int.emod_lt_of_pos X133 (hYp.1 (by omega))
   have hmn := Int.emod_nonneg X133 (show Y134 ≠ 0 by omega)
   have H204 := (e201.blk H191)
   have H205 := (e201.blk H192)
   have H206 := (e201.blk H193)
   have H207 := (e201.blk H194)
   have H208 := (e201.blk H195)
   exact ih142 ((X133 % Y134).toNat) _ _ (by rw [hd171]; omega) ⟨Ay130, ly131, cy132, Ad197, xs184.length, c198, Y134, (X133 % Y134), rfl, f145, f146, f147, rfl, rfl, f150, f151, f152, f153, f154, f155, f156, f157, f158, f159, f160, f161, f162, E202, H204, H205, H206, H207, H208, h203, ⟨xs184, rfl, hO199.cap, hO199.wd, ho188, hk189, hv190⟩, (by rw [gI_step]; exact hgc), hYs, (by omega)⟩
 refine rk_cf (T rfl (qF hb172)) <| rk_exit rfl ?_
 have hY0 : Y134 = 0 := by omega
 rw [hY0, gI_zero] at hgc
 have hr209 : X133 = gI x y := (by have h := hgc; rw [gI_abs] at h; (try simp at h); omega)
 have hw210 := Wc.eq h169 hr209
 have hq211 : gI x y < 2 ^ (max sx (max sy sz)) := by rw [← hr209]; exact hXs
 refine rk_reg <| qm (.slice Ax127 lx128 cx129) rfl f148 <| lw_v (.agg #[.bool false, .slice Ax127 lx128 cx129]) (dv_build (pv := [(0, .bool false), (1, .slice Ax127 lx128 cx129)]) (l := [.bool false, .slice Ax127 lx128 cx129]) zc107 pl107 ⟨rfl, C, ⟨rfl, (Z rfl), trivial⟩⟩ rfl) <| lw_e (oe_store (v := .agg #[.bool false, .slice Ax127 lx128 cx129]) (vs := [.bool false, .slice Ax127 lx128 cx129]) (l := [.bool false, .slice Ax127 lx128 cx129]) (T rfl f146) (Z rfl) sz107 rfl rfl rfl H166 rfl ?_)
 intro w212 s213 H214
 have E215 := below_st E163 N9 s213
 refine lw_nil <| rk_inBlock <| rk_reg <| lw_v _ (dv_add (a := 1) (b := 1) (z := 2) (T rfl f152) C (by decide)) <| qm (qi 2) rfl rfl <| lw_nil <| rk_inLoop <| rk_seq <| rk_reg <| lw_v _ (dv_lss (a := 2) (b := 3) (Z rfl) (T rfl f151)) <| lw_nil <| rk_seq <| rk_ct (T rfl (rfl)) <| rk_skip <| rk_seq <| rk_block <| rk_seq <| rk_reg <| lw_v (.pointer (some ⟨bl, 4, none⟩)) (dv_indexAddr (a := ⟨bl, 0, none⟩) (a' := ⟨bl, 4, none⟩) (l := 3) (c := 3) (j := 2) us172 sz107 (T rfl f150) (Z rfl) (by decide) (by decide) rfl) ?_
 have H216 := (s213.blk H164 (by omega))
 refine lw_v (.agg #[.bool nm, .slice Am lm cm]) (dv_loads (l := [.bool nm, .slice Am lm cm]) agt107 sz107 (Z rfl) H216 rfl) <| lw_e (oe_alloc ze107 ?_)
 intro b217 w218 n219
 have N220 : w.heap.size ≤ b217 := n219.eq ▸ E215.size
 have H221 := (s213.blk H168 (by omega))
 have : b112 < b217 := n219.eq ▸ lt_of_blk H221
 have E222 := qe E215 n219.ext
 refine lw_e (oe_store (v := .agg #[.bool nm, .slice Am lm cm]) (vs := [.bool nm, .slice Am lm cm]) (l := [.bool nm, .slice Am lm cm]) (Z rfl) (Z rfl) sz107 rfl rfl rfl n219.blk rfl ?_)
 intro w223 s224 H225
 have E226 := below_st E222 N220 s224
 refine lw_nil <| rk_seq <| rk_any (fun w => w.heap[b6]? = some (.cells #[.bool false, .slice Ax127 lx128 cx129] 107) ∧ w.heap[b217]? = some (.cells #[.bool nm, .slice Am lm cm] 107)) [5] mo ?_
 intro w227 d228
 have E229 := qe E226 d228.ext
 have H230 := (d228.ext.blk (s224.blk (n219.ext.blk H214) (by omega)))
 have H231 := (d228.ext.blk H225)
 refine aw_pure 0 (.pointer (some ⟨b6, 1, none⟩)) rfl (by kernel_rfl) .none ⟨H230, H231⟩ (fun _ => dv_fieldAddr (a := ⟨b6, 0, none⟩) (a' := ⟨b6, 1, none⟩) fo107_1 (T rfl f146) rfl) <| aw_load 1 (.slice Ax127 lx128 cx129) rfl (by kernel_rfl) .none ⟨H230, H231⟩ (fun _ s => dv_load1 (b := b6) (o := 1) agt105 (Z rfl) s.1 rfl) <| aw_pure 2 (.pointer (some ⟨b217, 1, none⟩)) rfl (by kernel_rfl) .none ⟨H230, H231⟩ (fun _ => dv_fieldAddr (a := ⟨b217, 0, none⟩) (a' := ⟨b217, 1, none⟩) fo107_1 (Z rfl) rfl) <| aw_load 3 (.slice Am lm cm) rfl (by kernel_rfl) .none ⟨H230, H231⟩ (fun _ s => dv_load1 (b := b217) (o := 1) agt105 (Z rfl) s.2 rfl) <| aw_pure 4 (.slice Ax127 lx128 cx129) rfl (by kernel_rfl) .none ⟨H230, H231⟩ (fun _ => dv_assign (Z rfl)) <| aw_last 5 (.slice Am lm cm) rfl (by kernel_rfl) .none (fun _ => dv_assign (Z rfl)) <| aw_done (by kernel_rfl) <| rk_seq <| rk_block ?_
 have h240 := ((((hw210.st s213 H166 (by decide)).ext n219.ext).st s224 n219.blk (by decide)).ext d228.ext)
 have h241 := hm.ext E229
 have H242 := (d228.ext.blk (s224.blk (n219.ext.blk H216) (by omega)))
 have H243 := (d228.ext.blk (s224.blk (n219.ext.blk (s213.blk H165 (by omega))) (by omega)))
 have H244 := (d228.ext.blk (s224.blk (n219.ext.blk (s213.blk H167 (by omega))) (by omega)))
 have H245 := (d228.ext.blk (s224.blk (n219.ext.blk H221) (by omega)))
 refine rk_loop (fun dm_ fr wl => ∃ (Ax232 : Option Addr) (lx233 cx234 : Nat) (Ay235 : Option Addr) (ly236 cy237 : Nat) (X238 Y239 : Int), dm_ = Y239.toNat ∧ fr 2 = .pointer (some ⟨b1, 0, none⟩) ∧ fr 3 = .pointer (some ⟨b6, 0, none⟩) ∧ fr 5 = .pointer (some ⟨b217, 0, none⟩) ∧ fr 6 = .slice Ax232 lx233 cx234 ∧ fr 7 = .slice Ay235 ly236 cy237 ∧ fr 11 = .slice (some ⟨bl, 0, none⟩) 3 3 ∧ fr 12 = qi 3 ∧ fr 13 = qi 2 ∧ fr 14 = qd (((2 : Int) < 3 : Prop)) ∧ fr 15 = .pointer (some ⟨bl, 4, none⟩) ∧ fr 16 = .agg #[.bool nm, .slice Am lm cm] ∧ fr 17 = .pointer (some ⟨b6, 1, none⟩) ∧ fr 18 = .slice Ax127 lx128 cx129 ∧ fr 19 = .pointer (some ⟨b217, 1, none⟩) ∧ fr 20 = .slice Am lm cm ∧ fr 33 = .slice Ax127 lx128 cx129 ∧ fr 34 = .agg #[.bool false, .slice Ax127 lx128 cx129] ∧ fr 35 = qi 2 ∧ Below w.heap.size w wl ∧ wl.heap[bl]? = some (.cells #[.bool na, .slice Aa la ca, .bool nb, .slice Ab lb cb, .bool nm, .slice Am lm cm] 107) ∧ wl.heap[b1]? = some (.cells #[.bool false, .slice none 0 0] 107) ∧ wl.heap[b6]? = some (.cells #[.bool false, .slice Ax127 lx128 cx129] 107) ∧ wl.heap[b16]? = some (.cells #[.bool na, .slice Aa la ca] 107) ∧ wl.heap[b112]? = some (.cells #[.bool nb, .slice Ab lb cb] 107) ∧ wl.heap[b217]? = some (.cells #[.bool nm, .slice Am lm cm] 107) ∧ Wc 64 36 .u64 wl Ax232 lx233 cx234 X238 ∧ Wc 64 36 .u64 wl Ay235 ly236 cy237 Y239 ∧ (gI X238 Y239 = gI (gI x y) (z.natAbs : Int)) ∧ (X238 < 2 ^ (max sx (max sy sz))) ∧ (Y239 < 2 ^ (max sx (max sy sz)))) ((z.natAbs : Int).toNat) ⟨Ax127, lx128, cx129, Am, lm, cm, (gI x y), (z.natAbs : Int), rfl, f145, f146, rfl, rfl, rfl, f150, f151, rfl, rfl, rfl, rfl, rfl, rfl, rfl, rfl, rfl, rfl, rfl, E229, H242, H243, H230, H244, H245, H231, h240, h241.wc, rfl, hq211, (Int.lt_of_lt_of_le h241.ltI (pow_le_of (by decide) (by omega)))⟩ ?_
 intro d250 fr249 w246 hI247 ih248
 obtain ⟨Ax232, lx233, cx234, Ay235, ly236, cy237, X238, Y239, hd278, f251, f252, f253, f254, f255, f256, f257, f258, f259, f260, f261, f262, f263, f264, f265, f266, f267, f268, E269, H270, H271, H272, H273, H274, H275, h276, h277, hgc, hXs, hYs⟩ := hI247
 have hXp := h276.nonneg
 have hYp := h277.pos
 have hYn := h277.nonneg
 have hlx := Wc.len (by decide) h276 hXs
 have hly := Wc.len (by decide) h277 hYs
 refine rk_seq <| rk_seq <| rk_reg <| qm (.slice Ay235 ly236 cy237) rfl f255 <| lw_v (qi (ly236 : Int)) (dv_len (ad := Ay235) (l := ly236) (c := cy237) us105 (Z rfl)) <| lw_v _ (dv_gtr (a := (ly236 : Int)) (b := 0) (Z rfl) C) <| lw_nil ?_
 by_cases hb279 : 0 < ((ly236 : Int))
 · refine rk_ct (T rfl (qT hb279)) <| rk_skip <| rk_block <| rk_seq <| rk_reg <| qm (.slice Ax232 lx233 cx234) rfl f254 <| qm (.slice Ay235 ly236 cy237) rfl f255 <| lw_e (oe_callf (vs := [.slice Ax232 lx233 cx234, .slice Ay235 ly236 cy237]) co135 (ar2 (Z rfl) (Z rfl)) (divWords_ok h276 h277 (by omega) (by first | omega | simp <;> omega) (by first | omega | simp <;> omega)) ?_)
   rintro _ w288 ⟨A280, n281, c282, A283, n284, c285, rfl, e289, h286, h287⟩
   have E290 := qe E269 e289
   have lh286 := Wc.len (by decide) h286 (div_sz (Wc.nonneg h276) (by omega) hXs)
   have lh287 := Wc.len (by decide) h287 (mod_sz (by omega) hYs)
   refine qm (.tuple #[.slice A280 n281 c282, .slice A283 n284 c285]) rfl rfl <| lw_v (.slice A280 n281 c282) (dv_extract (vs := #[.slice A280 n281 c282, .slice A283 n284 c285]) (Z rfl) rfl) <| lw_v (.slice A283 n284 c285) (dv_extract (vs := #[.slice A280 n281 c282, .slice A283 n284 c285]) (Z rfl) rfl) <| qs (.slice A280 n281 c282) rfl rfl <| qs (.slice A283 n284 c285) rfl rfl <| lw_nil <| rk_reg <| qm (.slice Ay235 ly236 cy237) rfl f255 <| qm (.slice A283 n284 c285) rfl rfl ?_
   obtain ⟨xs291, hl292, hc293, hw294, ho295, hk296, hv297⟩ := h287
   have H298 := (e289.blk H270)
   have : bl < w288.heap.size := lt_of_blk H298
   have H299 := (e289.blk H271)
   have : b1 < w288.heap.size := lt_of_blk H299
   have H300 := (e289.blk H272)
   have : b6 < w288.heap.size := lt_of_blk H300
   have H301 := (e289.blk H273)
   have : b16 < w288.heap.size := lt_of_blk H301
   have H302 := (e289.blk H274)
   have : b112 < w288.heap.size := lt_of_blk H302
   have H303 := (e289.blk H275)
   have : b217 < w288.heap.size := lt_of_blk H303
   have N304 : w.heap.size ≤ w288.heap.size := E290.size
   refine lw_e (oe_callf (vs := [.slice A283 n284 c285]) co136 (ar1 (Z rfl)) (clone_ok hw294 hl292 (by first | omega | simp <;> omega)) ?_)
   rintro _ w308 ⟨Ad305, c306, rfl, e309, hO307⟩
   have E310 := qe E290 e309
   refine qs (.slice Ay235 ly236 cy237) rfl rfl <| qs (.slice Ad305 (xs291.length) c306) rfl rfl <| lw_nil <| rk_inBlock ?_
   have h311 := ((h277.ext e289).ext e309)
   have hml := Int.emod_lt_of_pos X238 (hYp.1 (by omega))
   have hmn := Int.emod_nonneg X238 (show Y239 ≠ 0 by omega)
   have H312 := (e309.blk H298)
   have H313 := (e309.blk H299)
   have H314 := (e309.blk H300)
   have H315 := (e309.blk H301)
   have H316 := (e309.blk H302)
   have H317 := (e309.blk H303)
   exact ih248 ((X238 % Y239).toNat) _ _ (by rw [hd278]; omega) ⟨Ay235, ly236, cy237, Ad305, xs291.length, c306, Y239, (X238 % Y239), rfl, f251, f252, f253, rfl, rfl, f256, f257, f258, f259, f260, f261, f262, f263, f264, f265, f266, f267, f268, E310, H312, H313, H314, H315, H316, H317, h311, ⟨xs291, rfl, hO307.cap, hO307.wd, ho295, hk296, hv297⟩, (by rw [gI_step]; exact hgc), hYs, (by omega)⟩
 refine rk_cf (T rfl (qF hb279)) <| rk_exit rfl ?_
 have hY0 : Y239 = 0 := by omega
 rw [hY0, gI_zero] at hgc
 have hr318 : X238 = gI3 x y z := (by have h := hgc; rw [show gI3 x y z = gI (gI x y) z from rfl]; rw [gI_absr] at h; (try simp at h); omega)
 have hw319 := Wc.eq h276 hr318
 have hq320 : gI3 x y z < 2 ^ (max sx (max sy sz)) := by rw [← hr318]; exact hXs
 refine rk_reg <| qm (.slice Ax232 lx233 cx234) rfl f254 <| lw_v (.agg #[.bool false, .slice Ax232 lx233 cx234]) (dv_build (pv := [(0, .bool false), (1, .slice Ax232 lx233 cx234)]) (l := [.bool false, .slice Ax232 lx233 cx234]) zc107 pl107 ⟨rfl, C, ⟨rfl, (Z rfl), trivial⟩⟩ rfl) <| lw_e (oe_store (v := .agg #[.bool false, .slice Ax232 lx233 cx234]) (vs := [.bool false, .slice Ax232 lx233 cx234]) (l := [.bool false, .slice Ax232 lx233 cx234]) (T rfl f252) (Z rfl) sz107 rfl rfl rfl H272 rfl ?_)
 intro w321 s322 H323
 have E324 := below_st E269 N9 s322
 refine lw_nil <| rk_inBlock <| rk_reg <| lw_v _ (dv_add (a := 2) (b := 1) (z := 3) (T rfl f258) C (by decide)) <| qm (qi 3) rfl rfl <| lw_nil <| rk_inLoop <| rk_seq <| rk_reg <| lw_v _ (dv_lss (a := 3) (b := 3) (Z rfl) (T rfl f257)) <| lw_nil <| rk_seq <| rk_cf (T rfl (rfl)) <| rk_exit rfl <| rk_seq <| rk_reg <| lw_v (.agg #[.bool false, .slice Ax232 lx233 cx234]) (dv_loads (l := [.bool false, .slice Ax232 lx233 cx234]) agt107 sz107 (T rfl f252) H323 rfl) ?_
 have H325 := (s322.blk H271 (by omega))
 refine lw_e (oe_store (v := .agg #[.bool false, .slice Ax232 lx233 cx234]) (vs := [.bool false, .slice Ax232 lx233 cx234]) (l := [.bool false, .slice Ax232 lx233 cx234]) (T rfl f251) (Z rfl) sz107 rfl rfl rfl H325 rfl ?_)
 intro w326 s327 H328
 have E329 := below_st E324 N4 s327
 refine lw_nil <| rk_ret Try.func105 (v := .agg #[.bool false, .slice Ax232 lx233 cx234]) (res1 Try.results105 (rv_cells (l := [.bool false, .slice Ax232 lx233 cx234]) agt107 sz107 rfl f251 H328 rfl)) ⟨_, rfl, ?_⟩
 have h330 := ((hw319.st s322 H272 (by decide)).st s327 H325 (by decide))
 exact ⟨_, _, _, _, rfl, E329, Wc.num h330 (by simp) (by simp [sg]) hq320⟩
theorem fo59_0 : fieldOffB Try.prog 59 0 = some 0 := by kernel_rfl
theorem fo59_1 : fieldOffB Try.prog 59 1 = some 1 := by kernel_rfl
theorem fo59_2 : fieldOffB Try.prog 59 2 = some 2 := by kernel_rfl
theorem fo59_3 : fieldOffB Try.prog 59 3 = some 3 := by kernel_rfl
set_option maxHeartbeats 1000000 in
theorem toWide_ok {w : World} {z : Int}   : Ct Try.prog 66 [.agg #[.int .u64 (wv3 z), .int .u64 (wv2 z), .int .u64 (wv1 z), .int .u64 (wv0 z)]] w fun v w1 => v = .agg #[.int .u64 (wv3 z), .int .u64 (wv2 z), .int .u64 (wv1 z), .int .u64 (wv0 z)] ∧ Ext w w1 := by
 refine ct_run (n := 17) Try.func66 rfl Try.ntmps66 rfl ?_
 have E0 : Below w.heap.size w w := Below.refl _ _
 refine rk_seq <| rk_reg <| lw_e (oe_box (v := .agg #[qu (wv3 z), qu (wv2 z), qu (wv1 z), qu (wv0 z)]) (cs := #[qu (wv3 z), qu (wv2 z), qu (wv1 z), qu (wv0 z)]) (Z rfl) rfl ?_)
 intro b1 w2 n3
 have N4 : w.heap.size ≤ b1 := n3.eq ▸ E0.size
 have E5 := qe E0 n3.ext
 refine lw_e (oe_alloc ze38 ?_)
 intro b6 w7 n8
 have N9 : w.heap.size ≤ b6 := n8.eq ▸ E5.size
 have : b1 < b6 := n8.eq ▸ lt_of_blk n3.blk
 have E10 := qe E5 n8.ext
 refine qN <| lw_e (oe_alloc ze38 ?_)
 intro b11 w12 n13
 have N14 : w.heap.size ≤ b11 := n13.eq ▸ E10.size
 have : b6 < b11 := n13.eq ▸ lt_of_blk n8.blk
 have E15 := qe E10 n13.ext
 refine qN <| lw_v (.pointer (some ⟨b1, 0, none⟩)) (dv_fieldAddr (a := ⟨b1, 0, none⟩) (a' := ⟨b1, 0, none⟩) fo59_0 (Z rfl) rfl) ?_
 have H16 := (n13.ext.blk (n8.ext.blk n3.blk))
 refine lw_v (qu (wv3 z)) (dv_load1 (b := b1) (o := 0) agt36 (Z rfl) H16 rfl) <| lw_v (.pointer (some ⟨b11, 0, none⟩)) (dv_fieldAddr (a := ⟨b11, 0, none⟩) (a' := ⟨b11, 0, none⟩) fo38_0 (Z rfl) rfl) <| lw_e (oe_store (v := qu (wv3 z)) (vs := [qu (wv3 z)]) (l := [qu (wv3 z), qu 0, qu 0, qu 0]) (Z rfl) (Z rfl) sz36 rfl rfl rfl n13.blk rfl ?_)
 intro w17 s18 H19
 have E20 := below_st E15 N14 s18
 refine qN <| lw_v (.pointer (some ⟨b1, 1, none⟩)) (dv_fieldAddr (a := ⟨b1, 0, none⟩) (a' := ⟨b1, 1, none⟩) fo59_1 (Z rfl) rfl) ?_
 have H21 := (s18.blk H16 (by omega))
 refine lw_v (qu (wv2 z)) (dv_load1 (b := b1) (o := 1) agt36 (Z rfl) H21 rfl) <| lw_v (.pointer (some ⟨b11, 1, none⟩)) (dv_fieldAddr (a := ⟨b11, 0, none⟩) (a' := ⟨b11, 1, none⟩) fo38_1 (Z rfl) rfl) <| lw_e (oe_store (v := qu (wv2 z)) (vs := [qu (wv2 z)]) (l := [qu (wv3 z), qu (wv2 z), qu 0, qu 0]) (Z rfl) (Z rfl) sz36 rfl rfl rfl H19 rfl ?_)
 intro w22 s23 H24
 have E25 := below_st E20 N14 s23
 refine qN <| lw_v (.pointer (some ⟨b1, 2, none⟩)) (dv_fieldAddr (a := ⟨b1, 0, none⟩) (a' := ⟨b1, 2, none⟩) fo59_2 (Z rfl) rfl) ?_
 have H26 := (s23.blk H21 (by omega))
 refine lw_v (qu (wv1 z)) (dv_load1 (b := b1) (o := 2) agt36 (Z rfl) H26 rfl) <| lw_v (.pointer (some ⟨b11, 2, none⟩)) (dv_fieldAddr (a := ⟨b11, 0, none⟩) (a' := ⟨b11, 2, none⟩) fo38_2 (Z rfl) rfl) <| lw_e (oe_store (v := qu (wv1 z)) (vs := [qu (wv1 z)]) (l := [qu (wv3 z), qu (wv2 z), qu (wv1 z), qu 0]) (Z rfl) (Z rfl) sz36 rfl rfl rfl H24 rfl ?_)
 intro w27 s28 H29
 have E30 := below_st E25 N14 s28
 refine qN <| lw_v (.pointer (some ⟨b1, 3, none⟩)) (dv_fieldAddr (a := ⟨b1, 0, none⟩) (a' := ⟨b1, 3, none⟩) fo59_3 (Z rfl) rfl) ?_
 have H31 := (s28.blk H26 (by omega))
 refine lw_v (qu (wv0 z)) (dv_load1 (b := b1) (o := 3) agt36 (Z rfl) H31 rfl) <| lw_v (.pointer (some ⟨b11, 3, none⟩)) (dv_fieldAddr (a := ⟨b11, 0, none⟩) (a' := ⟨b11, 3, none⟩) fo38_3 (Z rfl) rfl) <| lw_e (oe_store (v := qu (wv0 z)) (vs := [qu (wv0 z)]) (l := [qu (wv3 z), qu (wv2 z), qu (wv1 z), qu (wv0 z)]) (Z rfl) (Z rfl) sz36 rfl rfl rfl H29 rfl ?_)
 intro w32 s33 H34
 have E35 := below_st E30 N14 s33
 refine qN <| lw_v (.agg #[qu (wv3 z), qu (wv2 z), qu (wv1 z), qu (wv0 z)]) (dv_loads (l := [qu (wv3 z), qu (wv2 z), qu (wv1 z), qu (wv0 z)]) agt38 sz38 (Z rfl) H34 rfl) ?_
 have H36 := (s33.blk (s28.blk (s23.blk (s18.blk (n13.ext.blk n8.blk) (by omega)) (by omega)) (by omega)) (by omega))
 refine lw_e (oe_store (v := .agg #[qu (wv3 z), qu (wv2 z), qu (wv1 z), qu (wv0 z)]) (vs := [qu (wv3 z), qu (wv2 z), qu (wv1 z), qu (wv0 z)]) (l := [qu (wv3 z), qu (wv2 z), qu (wv1 z), qu (wv0 z)]) (Z rfl) (Z rfl) sz38 rfl rfl rfl H36 rfl ?_)
 intro w37 s38 H39
 have E40 := below_st E35 N9 s38
 refine lw_nil <| rk_ret Try.func66 (v := .agg #[qu (wv3 z), qu (wv2 z), qu (wv1 z), qu (wv0 z)]) (res1 Try.results66 (rv_cells (l := [qu (wv3 z), qu (wv2 z), qu (wv1 z), qu (wv0 z)]) agt38 sz38 rfl rfl H39 rfl)) ⟨_, rfl, ?_⟩
 exact ⟨rfl, E40⟩
theorem agt109 : aggB Try.prog 109 = some true := by kernel_rfl
theorem agt40 : aggB Try.prog 40 = some true := by kernel_rfl
theorem agt59 : aggB Try.prog 59 = some true := by kernel_rfl
theorem agt90 : aggB Try.prog 90 = some true := by kernel_rfl
theorem co100 : callOk Try.prog 100 = true := by kernel_rfl
theorem co101 : callOk Try.prog 101 = true := by kernel_rfl
theorem co105 : callOk Try.prog 105 = true := by kernel_rfl
theorem co109 : callOk Try.prog 109 = true := by kernel_rfl
theorem co113 : callOk Try.prog 113 = true := by kernel_rfl
theorem co52 : callOk Try.prog 52 = true := by kernel_rfl
theorem co62 : callOk Try.prog 62 = true := by kernel_rfl
theorem co66 : callOk Try.prog 66 = true := by kernel_rfl
theorem co68 : callOk Try.prog 68 = true := by kernel_rfl
theorem co69 : callOk Try.prog 69 = true := by kernel_rfl
theorem co71 : callOk Try.prog 71 = true := by kernel_rfl
theorem co96 : callOk Try.prog 96 = true := by kernel_rfl
theorem co97 : callOk Try.prog 97 = true := by kernel_rfl
theorem co98 : callOk Try.prog 98 = true := by kernel_rfl
theorem fo109_0 : fieldOffB Try.prog 109 0 = some 0 := by kernel_rfl
theorem fo109_1 : fieldOffB Try.prog 109 1 = some 2 := by kernel_rfl
theorem fo109_2 : fieldOffB Try.prog 109 2 = some 4 := by kernel_rfl
theorem fo40_0 : fieldOffB Try.prog 40 0 = some 0 := by kernel_rfl
theorem fo40_1 : fieldOffB Try.prog 40 1 = some 4 := by kernel_rfl
theorem fo40_2 : fieldOffB Try.prog 40 2 = some 8 := by kernel_rfl
theorem fo61_0 : fieldOffB Try.prog 61 0 = some 0 := by kernel_rfl
theorem fo61_1 : fieldOffB Try.prog 61 1 = some 4 := by kernel_rfl
theorem fo61_2 : fieldOffB Try.prog 61 2 = some 8 := by kernel_rfl
theorem fo90_0 : fieldOffB Try.prog 90 0 = some 0 := by kernel_rfl
theorem fo90_1 : fieldOffB Try.prog 90 1 = some 2 := by kernel_rfl
theorem fo90_2 : fieldOffB Try.prog 90 2 = some 4 := by kernel_rfl
theorem pl109 : placesB Try.prog 109 = some [(0, 2), (2, 2), (4, 2)] := by kernel_rfl
theorem pl90 : placesB Try.prog 90 = some [(0, 2), (2, 2), (4, 2)] := by kernel_rfl
theorem sz109 : sizeB Try.prog 109 = some 6 := by kernel_rfl
theorem sz40 : sizeB Try.prog 40 = some 12 := by kernel_rfl
theorem sz59 : sizeB Try.prog 59 = some 4 := by kernel_rfl
theorem sz90 : sizeB Try.prog 90 = some 6 := by kernel_rfl
theorem zc109 : zcB Try.prog 109 = some [.bool false, .slice none 0 0, .bool false, .slice none 0 0, .bool false, .slice none 0 0] := by kernel_rfl
theorem zc90 : zcB Try.prog 90 = some [.bool false, .slice none 0 0, .bool false, .slice none 0 0, .bool false, .slice none 0 0] := by kernel_rfl
theorem ze109 : zeroB Try.prog 109 = some #[.bool false, .slice none 0 0, .bool false, .slice none 0 0, .bool false, .slice none 0 0] := by kernel_rfl
theorem ze40 : zeroB Try.prog 40 = some #[.int .u64 0, .int .u64 0, .int .u64 0, .int .u64 0, .int .u64 0, .int .u64 0, .int .u64 0, .int .u64 0, .int .u64 0, .int .u64 0, .int .u64 0, .int .u64 0] := by kernel_rfl
theorem ze90 : zeroB Try.prog 90 = some #[.bool false, .slice none 0 0, .bool false, .slice none 0 0, .bool false, .slice none 0 0] := by kernel_rfl
set_option maxHeartbeats 1000000 in
theorem toPoint_ok {w : World} {x y u : Int}   : Ct Try.prog 30 [.agg #[.int .u64 (wv3 x), .int .u64 (wv2 x), .int .u64 (wv1 x), .int .u64 (wv0 x), .int .u64 (wv3 y), .int .u64 (wv2 y), .int .u64 (wv1 y), .int .u64 (wv0 y), .int .u64 (wv3 u), .int .u64 (wv2 u), .int .u64 (wv1 u), .int .u64 (wv0 u)]] w fun v w1 => v = .agg #[.int .u64 (wv3 x), .int .u64 (wv2 x), .int .u64 (wv1 x), .int .u64 (wv0 x), .int .u64 (wv3 y), .int .u64 (wv2 y), .int .u64 (wv1 y), .int .u64 (wv0 y), .int .u64 (wv3 u), .int .u64 (wv2 u), .int .u64 (wv1 u), .int .u64 (wv0 u)] ∧ Ext w w1 := by
 refine ct_run (n := 17) Try.func30 rfl Try.ntmps30 rfl ?_
 have E0 : Below w.heap.size w w := Below.refl _ _
 refine rk_seq <| rk_reg <| lw_e (oe_box (v := .agg (qA x y u)) (cs := (qA x y u)) (Z rfl) rfl ?_)
 intro b1 w2 n3
 have N4 : w.heap.size ≤ b1 := n3.eq ▸ E0.size
 have E5 := qe E0 n3.ext
 refine lw_e (oe_alloc ze40 ?_)
 intro b6 w7 n8
 have N9 : w.heap.size ≤ b6 := n8.eq ▸ E5.size
 have : b1 < b6 := n8.eq ▸ lt_of_blk n3.blk
 have E10 := qe E5 n8.ext
 refine qN <| lw_e (oe_alloc ze40 ?_)
 intro b11 w12 n13
 have N14 : w.heap.size ≤ b11 := n13.eq ▸ E10.size
 have : b6 < b11 := n13.eq ▸ lt_of_blk n8.blk
 have E15 := qe E10 n13.ext
 refine qN <| lw_v (.pointer (some ⟨b1, 0, none⟩)) (dv_fieldAddr (a := ⟨b1, 0, none⟩) (a' := ⟨b1, 0, none⟩) fo61_0 (Z rfl) rfl) ?_
 have H16 := (n13.ext.blk (n8.ext.blk n3.blk))
 refine lw_v (.agg #[qu (wv3 x), qu (wv2 x), qu (wv1 x), qu (wv0 x)]) (dv_loads (l := [qu (wv3 x), qu (wv2 x), qu (wv1 x), qu (wv0 x)]) agt59 sz59 (Z rfl) H16 rfl) <| lw_e (oe_callf (vs := [.agg #[qu (wv3 x), qu (wv2 x), qu (wv1 x), qu (wv0 x)]]) co66 (ar1 (Z rfl)) (toWide_ok (z := x)  ) ?_)
 rintro _ w17 ⟨rfl, e18⟩
 have E19 := qe E15 e18
 refine lw_v (.pointer (some ⟨b11, 0, none⟩)) (dv_fieldAddr (a := ⟨b11, 0, none⟩) (a' := ⟨b11, 0, none⟩) fo40_0 (Z rfl) rfl) ?_
 have H20 := (e18.blk n13.blk)
 refine lw_e (oe_store (v := .agg #[qu (wv3 x), qu (wv2 x), qu (wv1 x), qu (wv0 x)]) (vs := [qu (wv3 x), qu (wv2 x), qu (wv1 x), qu (wv0 x)]) (l := [qu (wv3 x), qu (wv2 x), qu (wv1 x), qu (wv0 x), qu 0, qu 0, qu 0, qu 0, qu 0, qu 0, qu 0, qu 0]) (Z rfl) (Z rfl) sz38 rfl rfl rfl H20 rfl ?_)
 intro w21 s22 H23
 have E24 := below_st E19 N14 s22
 refine qN <| lw_v (.pointer (some ⟨b1, 4, none⟩)) (dv_fieldAddr (a := ⟨b1, 0, none⟩) (a' := ⟨b1, 4, none⟩) fo61_1 (Z rfl) rfl) ?_
 have H25 := (s22.blk (e18.blk H16) (by omega))
 refine lw_v (.agg #[qu (wv3 y), qu (wv2 y), qu (wv1 y), qu (wv0 y)]) (dv_loads (l := [qu (wv3 y), qu (wv2 y), qu (wv1 y), qu (wv0 y)]) agt59 sz59 (Z rfl) H25 rfl) <| lw_e (oe_callf (vs := [.agg #[qu (wv3 y), qu (wv2 y), qu (wv1 y), qu (wv0 y)]]) co66 (ar1 (Z rfl)) (toWide_ok (z := y)  ) ?_)
 rintro _ w26 ⟨rfl, e27⟩
 have E28 := qe E24 e27
 refine lw_v (.pointer (some ⟨b11, 4, none⟩)) (dv_fieldAddr (a := ⟨b11, 0, none⟩) (a' := ⟨b11, 4, none⟩) fo40_1 (Z rfl) rfl) ?_
 have H29 := (e27.blk H23)
 refine lw_e (oe_store (v := .agg #[qu (wv3 y), qu (wv2 y), qu (wv1 y), qu (wv0 y)]) (vs := [qu (wv3 y), qu (wv2 y), qu (wv1 y), qu (wv0 y)]) (l := [qu (wv3 x), qu (wv2 x), qu (wv1 x), qu (wv0 x), qu (wv3 y), qu (wv2 y), qu (wv1 y), qu (wv0 y), qu 0, qu 0, qu 0, qu 0]) (Z rfl) (Z rfl) sz38 rfl rfl rfl H29 rfl ?_)
 intro w30 s31 H32
 have E33 := below_st E28 N14 s31
 refine qN <| lw_v (.pointer (some ⟨b1, 8, none⟩)) (dv_fieldAddr (a := ⟨b1, 0, none⟩) (a' := ⟨b1, 8, none⟩) fo61_2 (Z rfl) rfl) ?_
 have H34 := (s31.blk (e27.blk H25) (by omega))
 refine lw_v (.agg #[qu (wv3 u), qu (wv2 u), qu (wv1 u), qu (wv0 u)]) (dv_loads (l := [qu (wv3 u), qu (wv2 u), qu (wv1 u), qu (wv0 u)]) agt59 sz59 (Z rfl) H34 rfl) <| lw_e (oe_callf (vs := [.agg #[qu (wv3 u), qu (wv2 u), qu (wv1 u), qu (wv0 u)]]) co66 (ar1 (Z rfl)) (toWide_ok (z := u)  ) ?_)
 rintro _ w35 ⟨rfl, e36⟩
 have E37 := qe E33 e36
 refine lw_v (.pointer (some ⟨b11, 8, none⟩)) (dv_fieldAddr (a := ⟨b11, 0, none⟩) (a' := ⟨b11, 8, none⟩) fo40_2 (Z rfl) rfl) ?_
 have H38 := (e36.blk H32)
 refine lw_e (oe_store (v := .agg #[qu (wv3 u), qu (wv2 u), qu (wv1 u), qu (wv0 u)]) (vs := [qu (wv3 u), qu (wv2 u), qu (wv1 u), qu (wv0 u)]) (l := (qL x y u)) (Z rfl) (Z rfl) sz38 rfl rfl rfl H38 rfl ?_)
 intro w39 s40 H41
 have E42 := below_st E37 N14 s40
 refine qN <| lw_v (.agg (qA x y u)) (dv_loads (l := (qL x y u)) agt40 sz40 (Z rfl) H41 rfl) ?_
 have H43 := (s40.blk (e36.blk (s31.blk (e27.blk (s22.blk (e18.blk (n13.ext.blk n8.blk)) (by omega))) (by omega))) (by omega))
 refine lw_e (oe_store (v := .agg (qA x y u)) (vs := (qL x y u)) (l := (qL x y u)) (Z rfl) (Z rfl) sz40 rfl rfl rfl H43 rfl ?_)
 intro w44 s45 H46
 have E47 := below_st E42 N9 s45
 refine lw_nil <| rk_ret Try.func30 (v := .agg (qA x y u)) (res1 Try.results30 (rv_cells (l := (qL x y u)) agt40 sz40 rfl rfl H46 rfl)) ⟨_, rfl, ?_⟩
 exact ⟨rfl, E47⟩
set_option maxHeartbeats 1000000 in
theorem l3Small_ok {w : World}  {na : Bool} {Aa : Option Addr} {la ca : Nat} {x : Int} {sx : Nat} (ha : Num 32 168 .u32 w na Aa la ca x sx) {nb : Bool} {Ab : Option Addr} {lb cb : Nat} {y : Int} {sy : Nat} (hb : Num 32 168 .u32 w nb Ab lb cb y sy) {nm : Bool} {Am : Option Addr} {lm cm : Nat} {u : Int} {su : Nat} (hm : Num 32 168 .u32 w nm Am lm cm u su) (hbsx : sx ≤ 100000) (hbsy : sy ≤ 100000) (hbsu : su ≤ 100000)  : Ct Try.prog 96 [.agg #[.bool na, .slice Aa la ca, .bool nb, .slice Ab lb cb, .bool nm, .slice Am lm cm]] w fun v w1 => v = .bool (decide (sm3 x y u)) ∧ Ext w w1 := by
 refine ct_run (n := 22) Try.func96 rfl Try.ntmps96 rfl ?_
 have E0 : Below w.heap.size w w := Below.refl _ _
 have lha := ql ha
 have lhb := ql hb
 have lhm := ql hm
 refine rk_seq <| rk_reg <| lw_e (oe_box (v := .agg #[.bool na, .slice Aa la ca, .bool nb, .slice Ab lb cb, .bool nm, .slice Am lm cm]) (cs := #[.bool na, .slice Aa la ca, .bool nb, .slice Ab lb cb, .bool nm, .slice Am lm cm]) (Z rfl) rfl ?_)
 intro b1 w2 n3
 have N4 : w.heap.size ≤ b1 := n3.eq ▸ E0.size
 have E5 := qe E0 n3.ext
 refine lw_v (.bool false) (dv_assign C) <| qN <| lw_v (.pointer (some ⟨b1, 0, none⟩)) (dv_fieldAddr (a := ⟨b1, 0, none⟩) (a' := ⟨b1, 0, none⟩) fo90_0 (Z rfl) rfl) <| lw_v (.pointer (some ⟨b1, 1, none⟩)) (dv_fieldAddr (a := ⟨b1, 0, none⟩) (a' := ⟨b1, 1, none⟩) fo88_1 (Z rfl) rfl) <| lw_v (.slice Aa la ca) (dv_load1 (b := b1) (o := 1) agt86 (Z rfl) n3.blk rfl) ?_
 have h6 := (ha.ext n3.ext)
 refine lw_e (oe_callf (vs := [.slice Aa la ca]) co128 (ar1 (Z rfl)) (l1Bits_wc h6.wc (by first | omega | simp <;> omega)) ?_)
 rintro _ w7 ⟨rfl, e8⟩
 have E9 := qe E5 e8
 refine lw_v _ (dv_leq (a := (nbits (x.natAbs : Int).toNat : Int)) (b := 80) (Z rfl) C) <| qm (qd (((nbits (x.natAbs : Int).toNat : Int)) ≤ 80)) rfl rfl ?_
 by_cases hb10 : ((nbits ((x.natAbs : Int)).toNat : Int)) ≤ 80
 · refine lw_vy (.pointer (some ⟨b1, 2, none⟩)) (d := 8) rfl rfl (qT hb10) (dv_fieldAddr (a := ⟨b1, 0, none⟩) (a' := ⟨b1, 2, none⟩) fo90_1 (Z rfl) rfl) <| lw_vy (.pointer (some ⟨b1, 3, none⟩)) (d := 8) rfl rfl (qT hb10) (dv_fieldAddr (a := ⟨b1, 2, none⟩) (a' := ⟨b1, 3, none⟩) fo88_1 (Z rfl) rfl) ?_
   have H11 := (e8.blk n3.blk)
   refine lw_vy (.slice Ab lb cb) (d := 8) rfl rfl (qT hb10) (dv_load1 (b := b1) (o := 3) agt86 (Z rfl) H11 rfl) ?_
   have h12 := ((hb.ext n3.ext).ext e8)
   refine lw_ey (d := 8) rfl rfl (qT hb10) (oe_callf (vs := [.slice Ab lb cb]) co128 (ar1 (Z rfl)) (l1Bits_wc h12.wc (by first | omega | simp <;> omega)) ?_)
   rintro _ w13 ⟨rfl, e14⟩
   have E15 := qe E9 e14
   refine lw_vy (qd (((nbits (y.natAbs : Int).toNat : Int)) ≤ 80)) (d := 8) rfl rfl (qT hb10) (dv_leq (a := (nbits (y.natAbs : Int).toNat : Int)) (b := 80) (Z rfl) C) <| lw_v (qd (((nbits (y.natAbs : Int).toNat : Int)) ≤ 80)) (dv_pick_t (T rfl (qT hb10)) (Z rfl)) <| qm (qd (((nbits (y.natAbs : Int).toNat : Int)) ≤ 80)) rfl rfl ?_
   by_cases hb16 : ((nbits ((y.natAbs : Int)).toNat : Int)) ≤ 80
   · refine lw_vy (.pointer (some ⟨b1, 4, none⟩)) (d := 15) rfl rfl (qT hb16) (dv_fieldAddr (a := ⟨b1, 0, none⟩) (a' := ⟨b1, 4, none⟩) fo90_2 (Z rfl) rfl) <| lw_vy (.pointer (some ⟨b1, 5, none⟩)) (d := 15) rfl rfl (qT hb16) (dv_fieldAddr (a := ⟨b1, 4, none⟩) (a' := ⟨b1, 5, none⟩) fo88_1 (Z rfl) rfl) ?_
     have H17 := (e14.blk H11)
     refine lw_vy (.slice Am lm cm) (d := 15) rfl rfl (qT hb16) (dv_load1 (b := b1) (o := 5) agt86 (Z rfl) H17 rfl) ?_
     have h18 := (((hm.ext n3.ext).ext e8).ext e14)
     refine lw_ey (d := 15) rfl rfl (qT hb16) (oe_callf (vs := [.slice Am lm cm]) co128 (ar1 (Z rfl)) (l1Bits_wc h18.wc (by first | omega | simp <;> omega)) ?_)
     rintro _ w19 ⟨rfl, e20⟩
     have E21 := qe E15 e20
     refine lw_vy (qd (((nbits (u.natAbs : Int).toNat : Int)) ≤ 80)) (d := 15) rfl rfl (qT hb16) (dv_leq (a := (nbits (u.natAbs : Int).toNat : Int)) (b := 80) (Z rfl) C) <| lw_v (qd (((nbits (u.natAbs : Int).toNat : Int)) ≤ 80)) (dv_pick_t (T rfl (qT hb16)) (Z rfl)) <| qs (qd (((nbits (u.natAbs : Int).toNat : Int)) ≤ 80)) rfl rfl <| lw_nil <| rk_ret Try.func96 (v := qd (((nbits (u.natAbs : Int).toNat : Int)) ≤ 80)) (res1 Try.results96 (rv_tmp rfl rfl)) ⟨_, rfl, ?_⟩
     exact ⟨(vb (by unfold sm3; omega)), E21⟩
   refine lw_no (d := 15) rfl rfl (qF hb16) <| lw_no (d := 15) rfl rfl (qF hb16) <| lw_no (d := 15) rfl rfl (qF hb16) <| lw_no (d := 15) rfl rfl (qF hb16) <| lw_no (d := 15) rfl rfl (qF hb16) <| lw_v (.bool false) (dv_pick_f (T rfl (qF hb16)) C) <| qs (.bool false) rfl rfl <| lw_nil <| rk_ret Try.func96 (v := .bool false) (res1 Try.results96 (rv_tmp rfl rfl)) ⟨_, rfl, ?_⟩
   exact ⟨(vf (by unfold sm3; omega)), E15⟩
 refine lw_no (d := 8) rfl rfl (qF hb10) <| lw_no (d := 8) rfl rfl (qF hb10) <| lw_no (d := 8) rfl rfl (qF hb10) <| lw_no (d := 8) rfl rfl (qF hb10) <| lw_no (d := 8) rfl rfl (qF hb10) <| lw_v (.bool false) (dv_pick_f (T rfl (qF hb10)) C) <| qm (.bool false) rfl rfl <| lw_no (d := 15) rfl rfl (rfl) <| lw_no (d := 15) rfl rfl (rfl) <| lw_no (d := 15) rfl rfl (rfl) <| lw_no (d := 15) rfl rfl (rfl) <| lw_no (d := 15) rfl rfl (rfl) <| lw_v (.bool false) (dv_pick_f (Z rfl) C) <| qs (.bool false) rfl rfl <| lw_nil <| rk_ret Try.func96 (v := .bool false) (res1 Try.results96 (rv_tmp rfl rfl)) ⟨_, rfl, ?_⟩
 exact ⟨(vf (by unfold sm3; omega)), E9⟩
set_option maxHeartbeats 1000000 in
theorem spot_ok {w : World}  {x y u : Int} (fx_ : fits x) (fy_ : fits y) (fu_ : fits u)   : Ct Try.prog 68 [.agg #[.int .u64 (wv3 x), .int .u64 (wv2 x), .int .u64 (wv1 x), .int .u64 (wv0 x), .int .u64 (wv3 y), .int .u64 (wv2 y), .int .u64 (wv1 y), .int .u64 (wv0 y), .int .u64 (wv3 u), .int .u64 (wv2 u), .int .u64 (wv1 u), .int .u64 (wv0 u)]] w fun v w1 => ∃ nr0_ A0_ l0_ c0_ nr1_ A1_ l1_ c1_ nr2_ A2_ l2_ c2_, v = .agg #[.bool nr0_, .slice A0_ l0_ c0_, .bool nr1_, .slice A1_ l1_ c1_, .bool nr2_, .slice A2_ l2_ c2_] ∧ Ext w w1 ∧ Num 64 36 .u64 w1 nr0_ A0_ l0_ c0_ (x) (256) ∧ Num 64 36 .u64 w1 nr1_ A1_ l1_ c1_ (y) (256) ∧ Num 64 36 .u64 w1 nr2_ A2_ l2_ c2_ (u) (256) := by
 refine ct_run (n := 13) Try.func68 rfl Try.ntmps68 rfl ?_
 have E0 : Below w.heap.size w w := Below.refl _ _
 refine rk_seq <| rk_reg <| lw_e (oe_box (v := .agg (qA x y u)) (cs := (qA x y u)) (Z rfl) rfl ?_)
 intro b1 w2 n3
 have N4 : w.heap.size ≤ b1 := n3.eq ▸ E0.size
 have E5 := qe E0 n3.ext
 refine lw_e (oe_alloc ze109 ?_)
 intro b6 w7 n8
 have N9 : w.heap.size ≤ b6 := n8.eq ▸ E5.size
 have : b1 < b6 := n8.eq ▸ lt_of_blk n3.blk
 have E10 := qe E5 n8.ext
 refine lw_nil <| rk_seq <| rk_any (fun w => w.heap[b1]? = some (.cells (qA x y u) 40)) [10] mo ?_
 intro w11 d12
 have E13 := qe E10 d12.ext
 have H14 := (d12.ext.blk (n8.ext.blk n3.blk))
 refine aw_pure 0 (.pointer (some ⟨b1, 0, none⟩)) rfl (by kernel_rfl) .none H14 (fun _ => dv_fieldAddr (a := ⟨b1, 0, none⟩) (a' := ⟨b1, 0, none⟩) fo40_0 (Z rfl) rfl) <| aw_load 1 (.agg #[qu (wv3 x), qu (wv2 x), qu (wv1 x), qu (wv0 x)]) rfl (by kernel_rfl) .none H14 (fun _ s => dv_loads (l := [qu (wv3 x), qu (wv2 x), qu (wv1 x), qu (wv0 x)]) agt38 sz38 (Z rfl) s rfl) <| aw_pure 3 (.pointer (some ⟨b1, 4, none⟩)) rfl (by kernel_rfl) .none H14 (fun _ => dv_fieldAddr (a := ⟨b1, 0, none⟩) (a' := ⟨b1, 4, none⟩) fo40_1 (Z rfl) rfl) <| aw_load 4 (.agg #[qu (wv3 y), qu (wv2 y), qu (wv1 y), qu (wv0 y)]) rfl (by kernel_rfl) .none H14 (fun _ s => dv_loads (l := [qu (wv3 y), qu (wv2 y), qu (wv1 y), qu (wv0 y)]) agt38 sz38 (Z rfl) s rfl) <| aw_pure 6 (.pointer (some ⟨b1, 8, none⟩)) rfl (by kernel_rfl) .none H14 (fun _ => dv_fieldAddr (a := ⟨b1, 0, none⟩) (a' := ⟨b1, 8, none⟩) fo40_2 (Z rfl) rfl) <| aw_load 7 (.agg #[qu (wv3 u), qu (wv2 u), qu (wv1 u), qu (wv0 u)]) rfl (by kernel_rfl) .none H14 (fun _ s => dv_loads (l := [qu (wv3 u), qu (wv2 u), qu (wv1 u), qu (wv0 u)]) agt38 sz38 (Z rfl) s rfl) <| aw_one 2 rfl (by kernel_rfl) .none (oe_callf (vs := [.agg #[qu (wv3 x), qu (wv2 x), qu (wv1 x), qu (wv0 x)]]) co113 (ar1 (Z rfl)) (wnumz_ok (z := x) fx_) ?_)
 rintro _ w20 ⟨nr15, A16, n17, c18, rfl, e21, h19⟩
 have E22 := qe E13 e21
 have lh19 := ql h19
 have H23 := (e21.blk H14)
 refine ⟨.inr H23, ?_⟩
 refine aw_one 5 rfl (by kernel_rfl) .none (oe_callf (vs := [.agg #[qu (wv3 y), qu (wv2 y), qu (wv1 y), qu (wv0 y)]]) co113 (ar1 (Z rfl)) (wnumz_ok (z := y) fy_) ?_)
 rintro _ w29 ⟨nr24, A25, n26, c27, rfl, e30, h28⟩
 have E31 := qe E22 e30
 have lh28 := ql h28
 have H32 := (e30.blk H23)
 refine ⟨.inr H32, ?_⟩
 refine aw_one 8 rfl (by kernel_rfl) .none (oe_callf (vs := [.agg #[qu (wv3 u), qu (wv2 u), qu (wv1 u), qu (wv0 u)]]) co113 (ar1 (Z rfl)) (wnumz_ok (z := u) fu_) ?_)
 rintro _ w38 ⟨nr33, A34, n35, c36, rfl, e39, h37⟩
 have E40 := qe E31 e39
 have lh37 := ql h37
 have H41 := (e39.blk H32)
 refine ⟨.inr H41, ?_⟩
 refine aw_pure 9 (.agg #[.bool nr15, .slice A16 n17 c18, .bool nr24, .slice A25 n26 c27, .bool nr33, .slice A34 n35 c36]) rfl (by kernel_rfl) .none H41 (fun _ => dv_build (pv := [(0, .agg #[.bool nr15, .slice A16 n17 c18]), (1, .agg #[.bool nr24, .slice A25 n26 c27]), (2, .agg #[.bool nr33, .slice A34 n35 c36])]) (l := [.bool nr15, .slice A16 n17 c18, .bool nr24, .slice A25 n26 c27, .bool nr33, .slice A34 n35 c36]) zc109 pl109 ⟨rfl, (Z rfl), ⟨rfl, (Z rfl), ⟨rfl, (Z rfl), trivial⟩⟩⟩ rfl) ?_
 have H42 := (e39.blk (e30.blk (e21.blk (d12.ext.blk n8.blk))))
 refine aw_one 10 rfl (by kernel_rfl) .none (oe_store (v := .agg #[.bool nr15, .slice A16 n17 c18, .bool nr24, .slice A25 n26 c27, .bool nr33, .slice A34 n35 c36]) (vs := [.bool nr15, .slice A16 n17 c18, .bool nr24, .slice A25 n26 c27, .bool nr33, .slice A34 n35 c36]) (l := [.bool nr15, .slice A16 n17 c18, .bool nr24, .slice A25 n26 c27, .bool nr33, .slice A34 n35 c36]) (Z rfl) (Z rfl) sz109 rfl rfl rfl H42 rfl ?_)
 intro w43 s44 H45
 have E46 := below_st E40 N9 s44
 refine ⟨.inl rfl, ?_⟩
 refine aw_done (by kernel_rfl) <| rk_ret Try.func68 (v := .agg #[.bool nr15, .slice A16 n17 c18, .bool nr24, .slice A25 n26 c27, .bool nr33, .slice A34 n35 c36]) (res1 Try.results68 (rv_cells (l := [.bool nr15, .slice A16 n17 c18, .bool nr24, .slice A25 n26 c27, .bool nr33, .slice A34 n35 c36]) agt109 sz109 rfl rfl H45 rfl)) ⟨_, rfl, ?_⟩
 have h47 := (((h19.ext e30).ext e39).st s44 H42 (by decide))
 have h48 := ((h28.ext e39).st s44 H42 (by decide))
 have h49 := (h37.st s44 H42 (by decide))
 exact ⟨_, _, _, _, _, _, _, _, _, _, _, _, rfl, E46, h47.to rfl (Nat.le_refl _), h48.to rfl (Nat.le_refl _), h49.to rfl (Nat.le_refl _)⟩
set_option maxHeartbeats 1000000 in
theorem l3Of_ok {w : World}  {x y u : Int} (fx_ : fits x) (fy_ : fits y) (fu_ : fits u)   : Ct Try.prog 52 [.agg #[.int .u64 (wv3 x), .int .u64 (wv2 x), .int .u64 (wv1 x), .int .u64 (wv0 x), .int .u64 (wv3 y), .int .u64 (wv2 y), .int .u64 (wv1 y), .int .u64 (wv0 y), .int .u64 (wv3 u), .int .u64 (wv2 u), .int .u64 (wv1 u), .int .u64 (wv0 u)]] w fun v w1 => ∃ nr0_ A0_ l0_ c0_ nr1_ A1_ l1_ c1_ nr2_ A2_ l2_ c2_, v = .agg #[.bool nr0_, .slice A0_ l0_ c0_, .bool nr1_, .slice A1_ l1_ c1_, .bool nr2_, .slice A2_ l2_ c2_] ∧ Ext w w1 ∧ Num 32 168 .u32 w1 nr0_ A0_ l0_ c0_ (x) (256) ∧ Num 32 168 .u32 w1 nr1_ A1_ l1_ c1_ (y) (256) ∧ Num 32 168 .u32 w1 nr2_ A2_ l2_ c2_ (u) (256) := by
 refine ct_run (n := 13) Try.func52 rfl Try.ntmps52 rfl ?_
 have E0 : Below w.heap.size w w := Below.refl _ _
 refine rk_seq <| rk_reg <| lw_e (oe_box (v := .agg (qA x y u)) (cs := (qA x y u)) (Z rfl) rfl ?_)
 intro b1 w2 n3
 have N4 : w.heap.size ≤ b1 := n3.eq ▸ E0.size
 have E5 := qe E0 n3.ext
 refine lw_e (oe_alloc ze90 ?_)
 intro b6 w7 n8
 have N9 : w.heap.size ≤ b6 := n8.eq ▸ E5.size
 have : b1 < b6 := n8.eq ▸ lt_of_blk n3.blk
 have E10 := qe E5 n8.ext
 refine lw_nil <| rk_seq <| rk_any (fun w => w.heap[b1]? = some (.cells (qA x y u) 40)) [10] mo ?_
 intro w11 d12
 have E13 := qe E10 d12.ext
 have H14 := (d12.ext.blk (n8.ext.blk n3.blk))
 refine aw_pure 0 (.pointer (some ⟨b1, 0, none⟩)) rfl (by kernel_rfl) .none H14 (fun _ => dv_fieldAddr (a := ⟨b1, 0, none⟩) (a' := ⟨b1, 0, none⟩) fo40_0 (Z rfl) rfl) <| aw_load 1 (.agg #[qu (wv3 x), qu (wv2 x), qu (wv1 x), qu (wv0 x)]) rfl (by kernel_rfl) .none H14 (fun _ s => dv_loads (l := [qu (wv3 x), qu (wv2 x), qu (wv1 x), qu (wv0 x)]) agt38 sz38 (Z rfl) s rfl) <| aw_pure 3 (.pointer (some ⟨b1, 4, none⟩)) rfl (by kernel_rfl) .none H14 (fun _ => dv_fieldAddr (a := ⟨b1, 0, none⟩) (a' := ⟨b1, 4, none⟩) fo40_1 (Z rfl) rfl) <| aw_load 4 (.agg #[qu (wv3 y), qu (wv2 y), qu (wv1 y), qu (wv0 y)]) rfl (by kernel_rfl) .none H14 (fun _ s => dv_loads (l := [qu (wv3 y), qu (wv2 y), qu (wv1 y), qu (wv0 y)]) agt38 sz38 (Z rfl) s rfl) <| aw_pure 6 (.pointer (some ⟨b1, 8, none⟩)) rfl (by kernel_rfl) .none H14 (fun _ => dv_fieldAddr (a := ⟨b1, 0, none⟩) (a' := ⟨b1, 8, none⟩) fo40_2 (Z rfl) rfl) <| aw_load 7 (.agg #[qu (wv3 u), qu (wv2 u), qu (wv1 u), qu (wv0 u)]) rfl (by kernel_rfl) .none H14 (fun _ s => dv_loads (l := [qu (wv3 u), qu (wv2 u), qu (wv1 u), qu (wv0 u)]) agt38 sz38 (Z rfl) s rfl) <| aw_one 2 rfl (by kernel_rfl) .none (oe_callf (vs := [.agg #[qu (wv3 x), qu (wv2 x), qu (wv1 x), qu (wv0 x)]]) co101 (ar1 (Z rfl)) (l1Fromz_ok (z := x) fx_) ?_)
 rintro _ w20 ⟨nr15, A16, n17, c18, rfl, e21, h19⟩
 have E22 := qe E13 e21
 have lh19 := ql h19
 have H23 := (e21.blk H14)
 refine ⟨.inr H23, ?_⟩
 refine aw_one 5 rfl (by kernel_rfl) .none (oe_callf (vs := [.agg #[qu (wv3 y), qu (wv2 y), qu (wv1 y), qu (wv0 y)]]) co101 (ar1 (Z rfl)) (l1Fromz_ok (z := y) fy_) ?_)
 rintro _ w29 ⟨nr24, A25, n26, c27, rfl, e30, h28⟩
 have E31 := qe E22 e30
 have lh28 := ql h28
 have H32 := (e30.blk H23)
 refine ⟨.inr H32, ?_⟩
 refine aw_one 8 rfl (by kernel_rfl) .none (oe_callf (vs := [.agg #[qu (wv3 u), qu (wv2 u), qu (wv1 u), qu (wv0 u)]]) co101 (ar1 (Z rfl)) (l1Fromz_ok (z := u) fu_) ?_)
 rintro _ w38 ⟨nr33, A34, n35, c36, rfl, e39, h37⟩
 have E40 := qe E31 e39
 have lh37 := ql h37
 have H41 := (e39.blk H32)
 refine ⟨.inr H41, ?_⟩
 refine aw_pure 9 (.agg #[.bool nr15, .slice A16 n17 c18, .bool nr24, .slice A25 n26 c27, .bool nr33, .slice A34 n35 c36]) rfl (by kernel_rfl) .none H41 (fun _ => dv_build (pv := [(0, .agg #[.bool nr15, .slice A16 n17 c18]), (1, .agg #[.bool nr24, .slice A25 n26 c27]), (2, .agg #[.bool nr33, .slice A34 n35 c36])]) (l := [.bool nr15, .slice A16 n17 c18, .bool nr24, .slice A25 n26 c27, .bool nr33, .slice A34 n35 c36]) zc90 pl90 ⟨rfl, (Z rfl), ⟨rfl, (Z rfl), ⟨rfl, (Z rfl), trivial⟩⟩⟩ rfl) ?_
 have H42 := (e39.blk (e30.blk (e21.blk (d12.ext.blk n8.blk))))
 refine aw_one 10 rfl (by kernel_rfl) .none (oe_store (v := .agg #[.bool nr15, .slice A16 n17 c18, .bool nr24, .slice A25 n26 c27, .bool nr33, .slice A34 n35 c36]) (vs := [.bool nr15, .slice A16 n17 c18, .bool nr24, .slice A25 n26 c27, .bool nr33, .slice A34 n35 c36]) (l := [.bool nr15, .slice A16 n17 c18, .bool nr24, .slice A25 n26 c27, .bool nr33, .slice A34 n35 c36]) (Z rfl) (Z rfl) sz90 rfl rfl rfl H42 rfl ?_)
 intro w43 s44 H45
 have E46 := below_st E40 N9 s44
 refine ⟨.inl rfl, ?_⟩
 refine aw_done (by kernel_rfl) <| rk_ret Try.func52 (v := .agg #[.bool nr15, .slice A16 n17 c18, .bool nr24, .slice A25 n26 c27, .bool nr33, .slice A34 n35 c36]) (res1 Try.results52 (rv_cells (l := [.bool nr15, .slice A16 n17 c18, .bool nr24, .slice A25 n26 c27, .bool nr33, .slice A34 n35 c36]) agt90 sz90 rfl rfl H45 rfl)) ⟨_, rfl, ?_⟩
 have h47 := (((h19.ext e30).ext e39).st s44 H42 (by decide))
 have h48 := ((h28.ext e39).st s44 H42 (by decide))
 have h49 := (h37.st s44 H42 (by decide))
 exact ⟨_, _, _, _, _, _, _, _, _, _, _, _, rfl, E46, h47.to rfl (Nat.le_refl _), h48.to rfl (Nat.le_refl _), h49.to rfl (Nat.le_refl _)⟩
set_option maxHeartbeats 1000000 in
theorem sPointOk_ok {w : World} {x y u : Int} (fx_ : fits x) (fy_ : fits y) (fu_ : fits u)  : Ct Try.prog 50 [.agg #[.int .u64 (wv3 x), .int .u64 (wv2 x), .int .u64 (wv1 x), .int .u64 (wv0 x), .int .u64 (wv3 y), .int .u64 (wv2 y), .int .u64 (wv1 y), .int .u64 (wv0 y), .int .u64 (wv3 u), .int .u64 (wv2 u), .int .u64 (wv1 u), .int .u64 (wv0 u)]] w fun v w1 => v = .bool (decide (pOk x y u)) ∧ Ext w w1 := by
 refine ct_run (n := 27) Try.func50 rfl Try.ntmps50 rfl ?_
 have E0 : Below w.heap.size w w := Below.refl _ _
 refine rk_seq <| rk_reg <| lw_e (oe_box (v := .agg (qA x y u)) (cs := (qA x y u)) (Z rfl) rfl ?_)
 intro b1 w2 n3
 have N4 : w.heap.size ≤ b1 := n3.eq ▸ E0.size
 have E5 := qe E0 n3.ext
 refine lw_v (.bool false) (dv_assign C) <| qN <| lw_v (.agg (qA x y u)) (dv_loads (l := (qL x y u)) agt40 sz40 (Z rfl) n3.blk rfl) <| lw_e (oe_callf (vs := [.agg (qA x y u)]) co52 (ar1 (Z rfl)) (l3Of_ok fx_ fy_ fu_  ) ?_)
 rintro _ w21 ⟨nr6, A7, n8, c9, nr10, A11, n12, c13, nr14, A15, n16, c17, rfl, e22, h18, h19, h20⟩
 have E23 := qe E5 e22
 have lh18 := ql h18
 have lh19 := ql h19
 have lh20 := ql h20
 refine lw_e (oe_alloc ze90 ?_)
 intro b24 w25 n26
 have N27 : w.heap.size ≤ b24 := n26.eq ▸ E23.size
 have H28 := (e22.blk n3.blk)
 have : b1 < b24 := n26.eq ▸ lt_of_blk H28
 have E29 := qe E23 n26.ext
 refine lw_e (oe_store (v := .agg #[.bool nr6, .slice A7 n8 c9, .bool nr10, .slice A11 n12 c13, .bool nr14, .slice A15 n16 c17]) (vs := [.bool nr6, .slice A7 n8 c9, .bool nr10, .slice A11 n12 c13, .bool nr14, .slice A15 n16 c17]) (l := [.bool nr6, .slice A7 n8 c9, .bool nr10, .slice A11 n12 c13, .bool nr14, .slice A15 n16 c17]) (Z rfl) (Z rfl) sz90 rfl rfl rfl n26.blk rfl ?_)
 intro w30 s31 H32
 have E33 := below_st E29 N27 s31
 refine lw_nil <| rk_seq <| rk_any (fun w => w.heap[b24]? = some (.cells #[.bool nr6, .slice A7 n8 c9, .bool nr10, .slice A11 n12 c13, .bool nr14, .slice A15 n16 c17] 90)) [21] mo ?_
 intro w34 d35
 have E36 := qe E33 d35.ext
 have H37 := (d35.ext.blk H32)
 refine aw_pure 0 (.pointer (some ⟨b24, 4, none⟩)) rfl (by kernel_rfl) .none H37 (fun _ => dv_fieldAddr (a := ⟨b24, 0, none⟩) (a' := ⟨b24, 4, none⟩) fo90_2 (Z rfl) rfl) <| aw_load 1 (.agg #[.bool nr14, .slice A15 n16 c17]) rfl (by kernel_rfl) .none H37 (fun _ s => dv_loads (l := [.bool nr14, .slice A15 n16 c17]) agt88 sz88 (Z rfl) s rfl) ?_
 have h38 := (((h20.ext n26.ext).st s31 n26.blk (by decide)).ext d35.ext)
 refine aw_one 2 rfl (by kernel_rfl) .none (oe_callf (vs := [.agg #[.bool nr14, .slice A15 n16 c17]]) co95 (ar1 (Z rfl)) (l1Sign_ok h38 ) ?_)
 rintro _ w39 ⟨rfl, e40⟩
 have E41 := qe E36 e40
 have H42 := (e40.blk H37)
 refine ⟨.inr H42, ?_⟩
 refine aw_pure 3 (qd (0 < (sgnI u))) rfl (by kernel_rfl) .none H42 (fun _ => dv_gtr (a := sgnI u) (b := 0) (Z rfl) C) <| aw_pure 4 (qd (0 < (sgnI u))) rfl (by kernel_rfl) .none H42 (fun _ => dv_move (Z rfl)) ?_
 by_cases hb43 : 0 < (sgnI u)
 · refine aw_load 5 (.agg #[.bool nr6, .slice A7 n8 c9, .bool nr10, .slice A11 n12 c13, .bool nr14, .slice A15 n16 c17]) rfl (by kernel_rfl) (.yes (d := 10) rfl rfl (qT hb43)) H42 (fun _ s => dv_loads (l := [.bool nr6, .slice A7 n8 c9, .bool nr10, .slice A11 n12 c13, .bool nr14, .slice A15 n16 c17]) agt90 sz90 (Z rfl) s rfl) ?_
   have h44 := ((((h18.ext n26.ext).st s31 n26.blk (by decide)).ext d35.ext).ext e40)
   have h45 := ((((h19.ext n26.ext).st s31 n26.blk (by decide)).ext d35.ext).ext e40)
   have h46 := (h38.ext e40)
   refine aw_one 6 rfl (by kernel_rfl) (.yes (d := 10) rfl rfl (qT hb43)) (oe_callf (vs := [.agg #[.bool nr6, .slice A7 n8 c9, .bool nr10, .slice A11 n12 c13, .bool nr14, .slice A15 n16 c17]]) co96 (ar1 (Z rfl)) (l3Small_ok h44 h45 h46 (by first | decide | omega) (by first | decide | omega) (by first | decide | omega) ) ?_)
   rintro _ w47 ⟨rfl, e48⟩
   have E49 := qe E41 e48
   have H50 := (e48.blk H42)
   refine ⟨.inr H50, ?_⟩
   refine aw_pure 7 (qd (sm3 x y u)) rfl (by kernel_rfl) .none H50 (fun _ => dv_pick_t (T rfl (qT hb43)) (Z rfl)) <| aw_pure 8 (qd (sm3 x y u)) rfl (by kernel_rfl) .none H50 (fun _ => dv_move (Z rfl)) ?_
   by_cases hb51 : sm3 x y u
   · refine aw_pure 9 (.pointer (some ⟨b24, 0, none⟩)) rfl (by kernel_rfl) (.yes (d := 14) rfl rfl (qT hb51)) H50 (fun _ => dv_fieldAddr (a := ⟨b24, 0, none⟩) (a' := ⟨b24, 0, none⟩) fo90_0 (Z rfl) rfl) <| aw_load 10 (.agg #[.bool nr6, .slice A7 n8 c9]) rfl (by kernel_rfl) (.yes (d := 14) rfl rfl (qT hb51)) H50 (fun _ s => dv_loads (l := [.bool nr6, .slice A7 n8 c9]) agt88 sz88 (Z rfl) s rfl) <| aw_pure 11 (.pointer (some ⟨b24, 2, none⟩)) rfl (by kernel_rfl) (.yes (d := 14) rfl rfl (qT hb51)) H50 (fun _ => dv_fieldAddr (a := ⟨b24, 0, none⟩) (a' := ⟨b24, 2, none⟩) fo90_1 (Z rfl) rfl) <| aw_load 12 (.agg #[.bool nr10, .slice A11 n12 c13]) rfl (by kernel_rfl) (.yes (d := 14) rfl rfl (qT hb51)) H50 (fun _ s => dv_loads (l := [.bool nr10, .slice A11 n12 c13]) agt88 sz88 (Z rfl) s rfl) <| aw_pure 14 (.pointer (some ⟨b24, 4, none⟩)) rfl (by kernel_rfl) (.yes (d := 14) rfl rfl (qT hb51)) H50 (fun _ => dv_fieldAddr (a := ⟨b24, 0, none⟩) (a' := ⟨b24, 4, none⟩) fo90_2 (Z rfl) rfl) <| aw_load 15 (.agg #[.bool nr14, .slice A15 n16 c17]) rfl (by kernel_rfl) (.yes (d := 14) rfl rfl (qT hb51)) H50 (fun _ s => dv_loads (l := [.bool nr14, .slice A15 n16 c17]) agt88 sz88 (Z rfl) s rfl) ?_
     have h52 := (h44.ext e48)
     have h53 := (h45.ext e48)
     refine aw_one 13 rfl (by kernel_rfl) (.yes (d := 14) rfl rfl (qT hb51)) (oe_callf (vs := [.agg #[.bool nr6, .slice A7 n8 c9], .agg #[.bool nr10, .slice A11 n12 c13]]) co98 (ar2 (Z rfl) (Z rfl)) (l1Gcd_ok h52 h53 (by first | decide | omega) (by first | decide | omega)) ?_)
     rintro _ w59 ⟨nr54, A55, n56, c57, rfl, e60, h58⟩
     have E61 := qe E49 e60
     have lh58 := ql h58
     have H62 := (e60.blk H50)
     refine ⟨.inr H62, ?_⟩
     have h63 := ((h46.ext e48).ext e60)
     refine aw_one 16 rfl (by kernel_rfl) (.yes (d := 14) rfl rfl (qT hb51)) (oe_callf (vs := [.agg #[.bool nr54, .slice A55 n56 c57], .agg #[.bool nr14, .slice A15 n16 c17]]) co98 (ar2 (Z rfl) (Z rfl)) (l1Gcd_ok h58 h63 (by first | decide | omega) (by first | decide | omega)) ?_)
     rintro _ w69 ⟨nr64, A65, n66, c67, rfl, e70, h68⟩
     have E71 := qe E61 e70
     have lh68 := ql h68
     have H72 := (e70.blk H62)
     refine ⟨.inr H72, ?_⟩
     refine aw_one 17 rfl (by kernel_rfl) (.yes (d := 14) rfl rfl (qT hb51)) (oe_callf (vs := [qi 1]) co99 (ar1 C) (l1Int_ok  (by omega)) ?_)
     rintro _ w78 ⟨nr73, A74, n75, c76, rfl, e79, h77⟩
     have E80 := qe E71 e79
     have lh77 := ql h77
     have H81 := (e79.blk H72)
     refine ⟨.inr H81, ?_⟩
     have h82 := (h68.ext e79)
     refine aw_one 18 rfl (by kernel_rfl) (.yes (d := 14) rfl rfl (qT hb51)) (oe_callf (vs := [.agg #[.bool nr64, .slice A65 n66 c67], .agg #[.bool nr73, .slice A74 n75 c76]]) co97 (ar2 (Z rfl) (Z rfl)) (l1Cmp_ok h82 h77 (by first | decide | omega) (by first | decide | omega)) ?_)
     rintro _ w83 ⟨rfl, e84⟩
     have E85 := qe E80 e84
     have H86 := (e84.blk H81)
     refine ⟨.inr H86, ?_⟩
     refine aw_pure 19 (qd ((sgnI ((gI (gI x y) u) - 1)) = 0)) rfl (by kernel_rfl) (.yes (d := 14) rfl rfl (qT hb51)) H86 (fun _ => dv_eql (a := sgnI ((gI (gI x y) u) - 1)) (b := 0) (Z rfl) C) <| aw_pure 20 (qd ((sgnI ((gI (gI x y) u) - 1)) = 0)) rfl (by kernel_rfl) .none H86 (fun _ => dv_pick_t (T rfl (qT hb51)) (Z rfl)) <| aw_last 21 (qd ((sgnI ((gI (gI x y) u) - 1)) = 0)) rfl (by kernel_rfl) .none (fun _ => dv_assign (Z rfl)) <| aw_done (by kernel_rfl) <| rk_ret Try.func50 (v := qd ((sgnI ((gI (gI x y) u) - 1)) = 0)) (res1 Try.results50 (rv_tmp rfl rfl)) ⟨_, rfl, ?_⟩
     have h1 : sm3 x y u := by first | assumption | exact sm3_iff.2 (mx3.1 ‹_›)
     have h2 : 0 < u := sgnI_gt.1 (by assumption)
     have h3 := @sgnI_zero (gI3 x y u - 1)
     exact ⟨(vb ⟨fun hh => ⟨h2, h1, by have := h3.1 hh; omega⟩, fun hh => h3.2 (by have := hh.2.2; omega)⟩), E85⟩
   refine aw_no 9 rfl (by kernel_rfl) (d := 14) rfl rfl (qF hb51) H50 <| aw_no 10 rfl (by kernel_rfl) (d := 14) rfl rfl (qF hb51) H50 <| aw_no 11 rfl (by kernel_rfl) (d := 14) rfl rfl (qF hb51) H50 <| aw_no 12 rfl (by kernel_rfl) (d := 14) rfl rfl (qF hb51) H50 <| aw_no 13 rfl (by kernel_rfl) (d := 14) rfl rfl (qF hb51) H50 <| aw_no 14 rfl (by kernel_rfl) (d := 14) rfl rfl (qF hb51) H50 <| aw_no 15 rfl (by kernel_rfl) (d := 14) rfl rfl (qF hb51) H50 <| aw_no 16 rfl (by kernel_rfl) (d := 14) rfl rfl (qF hb51) H50 <| aw_no 17 rfl (by kernel_rfl) (d := 14) rfl rfl (qF hb51) H50 <| aw_no 18 rfl (by kernel_rfl) (d := 14) rfl rfl (qF hb51) H50 <| aw_no 19 rfl (by kernel_rfl) (d := 14) rfl rfl (qF hb51) H50 <| aw_pure 20 (.bool false) rfl (by kernel_rfl) .none H50 (fun _ => dv_pick_f (T rfl (qF hb51)) C) <| aw_last 21 (.bool false) rfl (by kernel_rfl) .none (fun _ => dv_assign (Z rfl)) <| aw_done (by kernel_rfl) <| rk_ret Try.func50 (v := .bool false) (res1 Try.results50 (rv_tmp rfl rfl)) ⟨_, rfl, ?_⟩
   exact ⟨(vf (by intro hh; have h1 := sgnI_gt.2 hh.1; have h2 := hh.2.1; first | (exact absurd h2 (by assumption)) | (exact absurd (mx3.2 (sm3_iff.1 h2)) (by assumption)) | contradiction | omega)), E49⟩
 refine aw_no 5 rfl (by kernel_rfl) (d := 10) rfl rfl (qF hb43) H42 <| aw_no 6 rfl (by kernel_rfl) (d := 10) rfl rfl (qF hb43) H42 <| aw_pure 7 (.bool false) rfl (by kernel_rfl) .none H42 (fun _ => dv_pick_f (T rfl (qF hb43)) C) <| aw_pure 8 (.bool false) rfl (by kernel_rfl) .none H42 (fun _ => dv_move (Z rfl)) <| aw_no 9 rfl (by kernel_rfl) (d := 14) rfl rfl (rfl) H42 <| aw_no 10 rfl (by kernel_rfl) (d := 14) rfl rfl (rfl) H42 <| aw_no 11 rfl (by kernel_rfl) (d := 14) rfl rfl (rfl) H42 <| aw_no 12 rfl (by kernel_rfl) (d := 14) rfl rfl (rfl) H42 <| aw_no 13 rfl (by kernel_rfl) (d := 14) rfl rfl (rfl) H42 <| aw_no 14 rfl (by kernel_rfl) (d := 14) rfl rfl (rfl) H42 <| aw_no 15 rfl (by kernel_rfl) (d := 14) rfl rfl (rfl) H42 <| aw_no 16 rfl (by kernel_rfl) (d := 14) rfl rfl (rfl) H42 <| aw_no 17 rfl (by kernel_rfl) (d := 14) rfl rfl (rfl) H42 <| aw_no 18 rfl (by kernel_rfl) (d := 14) rfl rfl (rfl) H42 <| aw_no 19 rfl (by kernel_rfl) (d := 14) rfl rfl (rfl) H42 <| aw_pure 20 (.bool false) rfl (by kernel_rfl) .none H42 (fun _ => dv_pick_f (Z rfl) C) <| aw_last 21 (.bool false) rfl (by kernel_rfl) .none (fun _ => dv_assign (Z rfl)) <| aw_done (by kernel_rfl) <| rk_ret Try.func50 (v := .bool false) (res1 Try.results50 (rv_tmp rfl rfl)) ⟨_, rfl, ?_⟩
 exact ⟨(vf (by intro hh; have h1 := sgnI_gt.2 hh.1; have h2 := hh.2.1; first | (exact absurd h2 (by assumption)) | (exact absurd (mx3.2 (sm3_iff.1 h2)) (by assumption)) | contradiction | omega)), E41⟩
set_option maxHeartbeats 1000000 in
theorem iPointOk_ok {w : World} {x y u : Int} (fx_ : fits x) (fy_ : fits y) (fu_ : fits u)  : Ct Try.prog 55 [.agg #[.int .u64 (wv3 x), .int .u64 (wv2 x), .int .u64 (wv1 x), .int .u64 (wv0 x), .int .u64 (wv3 y), .int .u64 (wv2 y), .int .u64 (wv1 y), .int .u64 (wv0 y), .int .u64 (wv3 u), .int .u64 (wv2 u), .int .u64 (wv1 u), .int .u64 (wv0 u)]] w fun v w1 => v = .bool (decide (pOk x y u)) ∧ Ext w w1 := by
 refine ct_run (n := 36) Try.func55 rfl Try.ntmps55 rfl ?_
 have E0 : Below w.heap.size w w := Below.refl _ _
 refine rk_seq <| rk_reg <| lw_e (oe_box (v := .agg (qA x y u)) (cs := (qA x y u)) (Z rfl) rfl ?_)
 intro b1 w2 n3
 have N4 : w.heap.size ≤ b1 := n3.eq ▸ E0.size
 have E5 := qe E0 n3.ext
 refine lw_v (.bool false) (dv_assign C) <| qN <| lw_v (.agg (qA x y u)) (dv_loads (l := (qL x y u)) agt40 sz40 (Z rfl) n3.blk rfl) <| lw_e (oe_callf (vs := [.agg (qA x y u)]) co68 (ar1 (Z rfl)) (spot_ok fx_ fy_ fu_  ) ?_)
 rintro _ w21 ⟨nr6, A7, n8, c9, nr10, A11, n12, c13, nr14, A15, n16, c17, rfl, e22, h18, h19, h20⟩
 have E23 := qe E5 e22
 have lh18 := ql h18
 have lh19 := ql h19
 have lh20 := ql h20
 refine lw_e (oe_alloc ze109 ?_)
 intro b24 w25 n26
 have N27 : w.heap.size ≤ b24 := n26.eq ▸ E23.size
 have H28 := (e22.blk n3.blk)
 have : b1 < b24 := n26.eq ▸ lt_of_blk H28
 have E29 := qe E23 n26.ext
 refine lw_e (oe_store (v := .agg #[.bool nr6, .slice A7 n8 c9, .bool nr10, .slice A11 n12 c13, .bool nr14, .slice A15 n16 c17]) (vs := [.bool nr6, .slice A7 n8 c9, .bool nr10, .slice A11 n12 c13, .bool nr14, .slice A15 n16 c17]) (l := [.bool nr6, .slice A7 n8 c9, .bool nr10, .slice A11 n12 c13, .bool nr14, .slice A15 n16 c17]) (Z rfl) (Z rfl) sz109 rfl rfl rfl n26.blk rfl ?_)
 intro w30 s31 H32
 have E33 := below_st E29 N27 s31
 refine lw_nil <| rk_seq <| rk_any (fun w => w.heap[b24]? = some (.cells #[.bool nr6, .slice A7 n8 c9, .bool nr10, .slice A11 n12 c13, .bool nr14, .slice A15 n16 c17] 109)) [30] mo ?_
 intro w34 d35
 have E36 := qe E33 d35.ext
 have H37 := (d35.ext.blk H32)
 refine aw_pure 0 (.pointer (some ⟨b24, 4, none⟩)) rfl (by kernel_rfl) .none H37 (fun _ => dv_fieldAddr (a := ⟨b24, 0, none⟩) (a' := ⟨b24, 4, none⟩) fo109_2 (Z rfl) rfl) <| aw_load 1 (.agg #[.bool nr14, .slice A15 n16 c17]) rfl (by kernel_rfl) .none H37 (fun _ s => dv_loads (l := [.bool nr14, .slice A15 n16 c17]) agt107 sz107 (Z rfl) s rfl) ?_
 have h38 := (((h20.ext n26.ext).st s31 n26.blk (by decide)).ext d35.ext)
 refine aw_one 2 rfl (by kernel_rfl) .none (oe_callf (vs := [.agg #[.bool nr14, .slice A15 n16 c17]]) co103 (ar1 (Z rfl)) (nsign_ok h38 ) ?_)
 rintro _ w39 ⟨rfl, e40⟩
 have E41 := qe E36 e40
 have H42 := (e40.blk H37)
 refine ⟨.inr H42, ?_⟩
 refine aw_pure 3 (qd (0 < (sgnI u))) rfl (by kernel_rfl) .none H42 (fun _ => dv_gtr (a := sgnI u) (b := 0) (Z rfl) C) <| aw_pure 4 (qd (0 < (sgnI u))) rfl (by kernel_rfl) .none H42 (fun _ => dv_move (Z rfl)) ?_
 by_cases hb43 : 0 < (sgnI u)
 · refine aw_pure 5 (.pointer (some ⟨b24, 0, none⟩)) rfl (by kernel_rfl) (.yes (d := 10) rfl rfl (qT hb43)) H42 (fun _ => dv_fieldAddr (a := ⟨b24, 0, none⟩) (a' := ⟨b24, 0, none⟩) fo109_0 (Z rfl) rfl) <| aw_load 6 (.agg #[.bool nr6, .slice A7 n8 c9]) rfl (by kernel_rfl) (.yes (d := 10) rfl rfl (qT hb43)) H42 (fun _ s => dv_loads (l := [.bool nr6, .slice A7 n8 c9]) agt107 sz107 (Z rfl) s rfl) <| aw_pure 8 (.pointer (some ⟨b24, 2, none⟩)) rfl (by kernel_rfl) (.yes (d := 10) rfl rfl (qT hb43)) H42 (fun _ => dv_fieldAddr (a := ⟨b24, 0, none⟩) (a' := ⟨b24, 2, none⟩) fo109_1 (Z rfl) rfl) <| aw_load 9 (.agg #[.bool nr10, .slice A11 n12 c13]) rfl (by kernel_rfl) (.yes (d := 10) rfl rfl (qT hb43)) H42 (fun _ s => dv_loads (l := [.bool nr10, .slice A11 n12 c13]) agt107 sz107 (Z rfl) s rfl) <| aw_pure 11 (.pointer (some ⟨b24, 4, none⟩)) rfl (by kernel_rfl) (.yes (d := 10) rfl rfl (qT hb43)) H42 (fun _ => dv_fieldAddr (a := ⟨b24, 0, none⟩) (a' := ⟨b24, 4, none⟩) fo109_2 (Z rfl) rfl) <| aw_load 12 (.agg #[.bool nr14, .slice A15 n16 c17]) rfl (by kernel_rfl) (.yes (d := 10) rfl rfl (qT hb43)) H42 (fun _ s => dv_loads (l := [.bool nr14, .slice A15 n16 c17]) agt107 sz107 (Z rfl) s rfl) ?_
   have h44 := ((((h18.ext n26.ext).st s31 n26.blk (by decide)).ext d35.ext).ext e40)
   refine aw_one 7 rfl (by kernel_rfl) (.yes (d := 10) rfl rfl (qT hb43)) (oe_callf (vs := [.agg #[.bool nr6, .slice A7 n8 c9]]) co104 (ar1 (Z rfl)) (nsize_num h44 (by first | omega | simp <;> omega)) ?_)
   rintro _ w45 ⟨rfl, e46⟩
   have E47 := qe E41 e46
   have H48 := (e46.blk H42)
   refine ⟨.inr H48, ?_⟩
   have h49 := (((((h19.ext n26.ext).st s31 n26.blk (by decide)).ext d35.ext).ext e40).ext e46)
   refine aw_one 10 rfl (by kernel_rfl) (.yes (d := 10) rfl rfl (qT hb43)) (oe_callf (vs := [.agg #[.bool nr10, .slice A11 n12 c13]]) co104 (ar1 (Z rfl)) (nsize_num h49 (by first | omega | simp <;> omega)) ?_)
   rintro _ w50 ⟨rfl, e51⟩
   have E52 := qe E47 e51
   have H53 := (e51.blk H48)
   refine ⟨.inr H53, ?_⟩
   have h54 := (((h38.ext e40).ext e46).ext e51)
   refine aw_one 13 rfl (by kernel_rfl) (.yes (d := 10) rfl rfl (qT hb43)) (oe_callf (vs := [.agg #[.bool nr14, .slice A15 n16 c17]]) co104 (ar1 (Z rfl)) (nsize_num h54 (by first | omega | simp <;> omega)) ?_)
   rintro _ w55 ⟨rfl, e56⟩
   have E57 := qe E52 e56
   have H58 := (e56.blk H53)
   refine ⟨.inr H58, ?_⟩
   refine aw_pure 14 (qi (mx (mx ((nbits (x).natAbs : Int)) ((nbits (y).natAbs : Int))) ((nbits (u).natAbs : Int)))) rfl (by kernel_rfl) (.yes (d := 10) rfl rfl (qT hb43)) H58 (fun _ => dv_max3 (a := (nbits (x).natAbs : Int)) (b := (nbits (y).natAbs : Int)) (c := (nbits (u).natAbs : Int)) (Z rfl) (Z rfl) (Z rfl)) <| aw_pure 15 (qd ((mx (mx ((nbits (x).natAbs : Int)) ((nbits (y).natAbs : Int))) ((nbits (u).natAbs : Int))) ≤ 80)) rfl (by kernel_rfl) (.yes (d := 10) rfl rfl (qT hb43)) H58 (fun _ => dv_leq (a := mx (mx ((nbits (x).natAbs : Int)) ((nbits (y).natAbs : Int))) ((nbits (u).natAbs : Int))) (b := 80) (Z rfl) C) <| aw_pure 16 (qd ((mx (mx ((nbits (x).natAbs : Int)) ((nbits (y).natAbs : Int))) ((nbits (u).natAbs : Int))) ≤ 80)) rfl (by kernel_rfl) .none H58 (fun _ => dv_pick_t (T rfl (qT hb43)) (Z rfl)) <| aw_pure 17 (qd ((mx (mx ((nbits (x).natAbs : Int)) ((nbits (y).natAbs : Int))) ((nbits (u).natAbs : Int))) ≤ 80)) rfl (by kernel_rfl) .none H58 (fun _ => dv_move (Z rfl)) ?_
   by_cases hb59 : (mx (mx ((nbits (x).natAbs : Int)) ((nbits (y).natAbs : Int))) ((nbits (u).natAbs : Int))) ≤ 80
   · refine aw_pure 18 (.pointer (some ⟨b24, 0, none⟩)) rfl (by kernel_rfl) (.yes (d := 23) rfl rfl (qT hb59)) H58 (fun _ => dv_fieldAddr (a := ⟨b24, 0, none⟩) (a' := ⟨b24, 0, none⟩) fo109_0 (Z rfl) rfl) <| aw_load 19 (.agg #[.bool nr6, .slice A7 n8 c9]) rfl (by kernel_rfl) (.yes (d := 23) rfl rfl (qT hb59)) H58 (fun _ s => dv_loads (l := [.bool nr6, .slice A7 n8 c9]) agt107 sz107 (Z rfl) s rfl) <| aw_pure 20 (.pointer (some ⟨b24, 2, none⟩)) rfl (by kernel_rfl) (.yes (d := 23) rfl rfl (qT hb59)) H58 (fun _ => dv_fieldAddr (a := ⟨b24, 0, none⟩) (a' := ⟨b24, 2, none⟩) fo109_1 (Z rfl) rfl) <| aw_load 21 (.agg #[.bool nr10, .slice A11 n12 c13]) rfl (by kernel_rfl) (.yes (d := 23) rfl rfl (qT hb59)) H58 (fun _ s => dv_loads (l := [.bool nr10, .slice A11 n12 c13]) agt107 sz107 (Z rfl) s rfl) <| aw_pure 22 (.pointer (some ⟨b24, 4, none⟩)) rfl (by kernel_rfl) (.yes (d := 23) rfl rfl (qT hb59)) H58 (fun _ => dv_fieldAddr (a := ⟨b24, 0, none⟩) (a' := ⟨b24, 4, none⟩) fo109_2 (Z rfl) rfl) <| aw_load 23 (.agg #[.bool nr14, .slice A15 n16 c17]) rfl (by kernel_rfl) (.yes (d := 23) rfl rfl (qT hb59)) H58 (fun _ s => dv_loads (l := [.bool nr14, .slice A15 n16 c17]) agt107 sz107 (Z rfl) s rfl) <| aw_one 24 rfl (by kernel_rfl) (.yes (d := 23) rfl rfl (qT hb59)) (oe_buildSlice (pv := [(0, .agg #[.bool nr6, .slice A7 n8 c9]), (1, .agg #[.bool nr10, .slice A11 n12 c13]), (2, .agg #[.bool nr14, .slice A15 n16 c17])]) (init := [.bool false, .slice none 0 0, .bool false, .slice none 0 0, .bool false, .slice none 0 0]) (l := [.bool nr6, .slice A7 n8 c9, .bool nr10, .slice A11 n12 c13, .bool nr14, .slice A15 n16 c17]) us172 sz107 rfl rfl zc107 (by kernel_rfl) ⟨rfl, (Z rfl), ⟨rfl, (Z rfl), ⟨rfl, (Z rfl), trivial⟩⟩⟩ rfl ?_)
     intro b60 w61 n62
     have N63 : w.heap.size ≤ b60 := n62.eq ▸ E57.size
     have : b24 < b60 := n62.eq ▸ lt_of_blk H58
     have E64 := qe E57 n62.ext
     have H65 := (n62.ext.blk H58)
     refine ⟨.inr H65, ?_⟩
     have h66 := ((((h44.ext e46).ext e51).ext e56).ext n62.ext)
     have h67 := (((h49.ext e51).ext e56).ext n62.ext)
     have h68 := ((h54.ext e56).ext n62.ext)
     refine aw_one 25 rfl (by kernel_rfl) (.yes (d := 23) rfl rfl (qT hb59)) (oe_callf (vs := [.slice (some ⟨b60, 0, none⟩) 3 3]) co105 (ar1 (Z rfl)) (gcd3_ok h66 h67 h68 (by first | decide | omega) (by first | decide | omega) (by first | decide | omega) n62.blk) ?_)
     rintro _ w74 ⟨nr69, A70, n71, c72, rfl, e75, h73⟩
     have E76 := qe E64 e75
     have lh73 := ql h73
     have H77 := (e75.blk H65)
     refine ⟨.inr H77, ?_⟩
     refine aw_one 26 rfl (by kernel_rfl) (.yes (d := 23) rfl rfl (qT hb59)) (oe_callf (vs := [qi 1]) co70 (ar1 C) (whole_ok  (by omega)) ?_)
     rintro _ w83 ⟨nr78, A79, n80, c81, rfl, e84, h82⟩
     have E85 := qe E76 e84
     have lh82 := ql h82
     have H86 := (e84.blk H77)
     refine ⟨.inr H86, ?_⟩
     have h87 := (h73.ext e84)
     refine aw_one 27 rfl (by kernel_rfl) (.yes (d := 23) rfl rfl (qT hb59)) (oe_callf (vs := [.agg #[.bool nr69, .slice A70 n71 c72], .agg #[.bool nr78, .slice A79 n80 c81]]) co69 (ar2 (Z rfl) (Z rfl)) (ncmp_ok h87 h82 (by first | decide | omega) (by first | decide | omega)) ?_)
     rintro _ w88 ⟨rfl, e89⟩
     have E90 := qe E85 e89
     have H91 := (e89.blk H86)
     refine ⟨.inr H91, ?_⟩
     refine aw_pure 28 (qd ((sgnI ((gI3 x y u) - 1)) = 0)) rfl (by kernel_rfl) (.yes (d := 23) rfl rfl (qT hb59)) H91 (fun _ => dv_eql (a := sgnI ((gI3 x y u) - 1)) (b := 0) (Z rfl) C) <| aw_pure 29 (qd ((sgnI ((gI3 x y u) - 1)) = 0)) rfl (by kernel_rfl) .none H91 (fun _ => dv_pick_t (T rfl (qT hb59)) (Z rfl)) <| aw_last 30 (qd ((sgnI ((gI3 x y u) - 1)) = 0)) rfl (by kernel_rfl) .none (fun _ => dv_assign (Z rfl)) <| aw_done (by kernel_rfl) <| rk_ret Try.func55 (v := qd ((sgnI ((gI3 x y u) - 1)) = 0)) (res1 Try.results55 (rv_tmp rfl rfl)) ⟨_, rfl, ?_⟩
     have h1 : sm3 x y u := by first | assumption | exact sm3_iff.2 (mx3.1 ‹_›)
     have h2 : 0 < u := sgnI_gt.1 (by assumption)
     have h3 := @sgnI_zero (gI3 x y u - 1)
     exact ⟨(vb ⟨fun hh => ⟨h2, h1, by have := h3.1 hh; omega⟩, fun hh => h3.2 (by have := hh.2.2; omega)⟩), E90⟩
   refine aw_no 18 rfl (by kernel_rfl) (d := 23) rfl rfl (qF hb59) H58 <| aw_no 19 rfl (by kernel_rfl) (d := 23) rfl rfl (qF hb59) H58 <| aw_no 20 rfl (by kernel_rfl) (d := 23) rfl rfl (qF hb59) H58 <| aw_no 21 rfl (by kernel_rfl) (d := 23) rfl rfl (qF hb59) H58 <| aw_no 22 rfl (by kernel_rfl) (d := 23) rfl rfl (qF hb59) H58 <| aw_no 23 rfl (by kernel_rfl) (d := 23) rfl rfl (qF hb59) H58 <| aw_no 24 rfl (by kernel_rfl) (d := 23) rfl rfl (qF hb59) H58 <| aw_no 25 rfl (by kernel_rfl) (d := 23) rfl rfl (qF hb59) H58 <| aw_no 26 rfl (by kernel_rfl) (d := 23) rfl rfl (qF hb59) H58 <| aw_no 27 rfl (by kernel_rfl) (d := 23) rfl rfl (qF hb59) H58 <| aw_no 28 rfl (by kernel_rfl) (d := 23) rfl rfl (qF hb59) H58 <| aw_pure 29 (.bool false) rfl (by kernel_rfl) .none H58 (fun _ => dv_pick_f (T rfl (qF hb59)) C) <| aw_last 30 (.bool false) rfl (by kernel_rfl) .none (fun _ => dv_assign (Z rfl)) <| aw_done (by kernel_rfl) <| rk_ret Try.func55 (v := .bool false) (res1 Try.results55 (rv_tmp rfl rfl)) ⟨_, rfl, ?_⟩
   exact ⟨(vf (by intro hh; have h1 := sgnI_gt.2 hh.1; have h2 := hh.2.1; first | (exact absurd h2 (by assumption)) | (exact absurd (mx3.2 (sm3_iff.1 h2)) (by assumption)) | contradiction | omega)), E57⟩
 refine aw_no 5 rfl (by kernel_rfl) (d := 10) rfl rfl (qF hb43) H42 <| aw_no 6 rfl (by kernel_rfl) (d := 10) rfl rfl (qF hb43) H42 <| aw_no 7 rfl (by kernel_rfl) (d := 10) rfl rfl (qF hb43) H42 <| aw_no 8 rfl (by kernel_rfl) (d := 10) rfl rfl (qF hb43) H42 <| aw_no 9 rfl (by kernel_rfl) (d := 10) rfl rfl (qF hb43) H42 <| aw_no 10 rfl (by kernel_rfl) (d := 10) rfl rfl (qF hb43) H42 <| aw_no 11 rfl (by kernel_rfl) (d := 10) rfl rfl (qF hb43) H42 <| aw_no 12 rfl (by kernel_rfl) (d := 10) rfl rfl (qF hb43) H42 <| aw_no 13 rfl (by kernel_rfl) (d := 10) rfl rfl (qF hb43) H42 <| aw_no 14 rfl (by kernel_rfl) (d := 10) rfl rfl (qF hb43) H42 <| aw_no 15 rfl (by kernel_rfl) (d := 10) rfl rfl (qF hb43) H42 <| aw_pure 16 (.bool false) rfl (by kernel_rfl) .none H42 (fun _ => dv_pick_f (T rfl (qF hb43)) C) <| aw_pure 17 (.bool false) rfl (by kernel_rfl) .none H42 (fun _ => dv_move (Z rfl)) <| aw_no 18 rfl (by kernel_rfl) (d := 23) rfl rfl (rfl) H42 <| aw_no 19 rfl (by kernel_rfl) (d := 23) rfl rfl (rfl) H42 <| aw_no 20 rfl (by kernel_rfl) (d := 23) rfl rfl (rfl) H42 <| aw_no 21 rfl (by kernel_rfl) (d := 23) rfl rfl (rfl) H42 <| aw_no 22 rfl (by kernel_rfl) (d := 23) rfl rfl (rfl) H42 <| aw_no 23 rfl (by kernel_rfl) (d := 23) rfl rfl (rfl) H42 <| aw_no 24 rfl (by kernel_rfl) (d := 23) rfl rfl (rfl) H42 <| aw_no 25 rfl (by kernel_rfl) (d := 23) rfl rfl (rfl) H42 <| aw_no 26 rfl (by kernel_rfl) (d := 23) rfl rfl (rfl) H42 <| aw_no 27 rfl (by kernel_rfl) (d := 23) rfl rfl (rfl) H42 <| aw_no 28 rfl (by kernel_rfl) (d := 23) rfl rfl (rfl) H42 <| aw_pure 29 (.bool false) rfl (by kernel_rfl) .none H42 (fun _ => dv_pick_f (Z rfl) C) <| aw_last 30 (.bool false) rfl (by kernel_rfl) .none (fun _ => dv_assign (Z rfl)) <| aw_done (by kernel_rfl) <| rk_ret Try.func55 (v := .bool false) (res1 Try.results55 (rv_tmp rfl rfl)) ⟨_, rfl, ?_⟩
 exact ⟨(vf (by intro hh; have h1 := sgnI_gt.2 hh.1; have h2 := hh.2.1; first | (exact absurd h2 (by assumption)) | (exact absurd (mx3.2 (sm3_iff.1 h2)) (by assumption)) | contradiction | omega)), E41⟩
set_option maxHeartbeats 1000000 in
theorem l3CmpX_ok {w : World}  {na : Bool} {Aa : Option Addr} {la ca : Nat} {x : Int} {sx : Nat} (ha : Num 32 168 .u32 w na Aa la ca x sx) {nb : Bool} {Ab : Option Addr} {lb cb : Nat} {y : Int} {sy : Nat} (hb : Num 32 168 .u32 w nb Ab lb cb y sy) {nm : Bool} {Am : Option Addr} {lm cm : Nat} {u : Int} {su : Nat} (hm : Num 32 168 .u32 w nm Am lm cm u su) {ne : Bool} {Ae : Option Addr} {le ce : Nat} {p : Int} {sp : Nat} (he : Num 32 168 .u32 w ne Ae le ce p sp) {nf : Bool} {Af : Option Addr} {lf cf : Nat} {q : Int} {sq : Nat} (hf : Num 32 168 .u32 w nf Af lf cf q sq) {ng : Bool} {Ag : Option Addr} {lg cg : Nat} {r : Int} {sr : Nat} (hg : Num 32 168 .u32 w ng Ag lg cg r sr) (hbsx : sx ≤ 100000) (hbsy : sy ≤ 100000) (hbsu : su ≤ 100000) (hbsp : sp ≤ 100000) (hbsq : sq ≤ 100000) (hbsr : sr ≤ 100000)  : Ct Try.prog 62 [.agg #[.bool na, .slice Aa la ca, .bool nb, .slice Ab lb cb, .bool nm, .slice Am lm cm], .agg #[.bool ne, .slice Ae le ce, .bool nf, .slice Af lf cf, .bool ng, .slice Ag lg cg]] w fun v w1 => v = .int .i64 (sgnI (x * r - p * u)) ∧ Ext w w1 := by
 refine ct_run (n := 16) Try.func62 rfl Try.ntmps62 rfl ?_
 have E0 : Below w.heap.size w w := Below.refl _ _
 have lha := ql ha
 have lhb := ql hb
 have lhm := ql hm
 have lhe := ql he
 have lhf := ql hf
 have lhg := ql hg
 refine rk_seq <| rk_reg <| lw_e (oe_box (v := .agg #[.bool na, .slice Aa la ca, .bool nb, .slice Ab lb cb, .bool nm, .slice Am lm cm]) (cs := #[.bool na, .slice Aa la ca, .bool nb, .slice Ab lb cb, .bool nm, .slice Am lm cm]) (Z rfl) rfl ?_)
 intro b1 w2 n3
 have N4 : w.heap.size ≤ b1 := n3.eq ▸ E0.size
 have E5 := qe E0 n3.ext
 refine lw_e (oe_box (v := .agg #[.bool ne, .slice Ae le ce, .bool nf, .slice Af lf cf, .bool ng, .slice Ag lg cg]) (cs := #[.bool ne, .slice Ae le ce, .bool nf, .slice Af lf cf, .bool ng, .slice Ag lg cg]) (Z rfl) rfl ?_)
 intro b6 w7 n8
 have N9 : w.heap.size ≤ b6 := n8.eq ▸ E5.size
 have : b1 < b6 := n8.eq ▸ lt_of_blk n3.blk
 have E10 := qe E5 n8.ext
 refine lw_v (qi 0) (dv_assign C) <| lw_nil <| rk_seq <| rk_any (fun w => w.heap[b1]? = some (.cells #[.bool na, .slice Aa la ca, .bool nb, .slice Ab lb cb, .bool nm, .slice Am lm cm] 90) ∧ w.heap[b6]? = some (.cells #[.bool ne, .slice Ae le ce, .bool nf, .slice Af lf cf, .bool ng, .slice Ag lg cg] 90)) [11] mo ?_
 intro w11 d12
 have E13 := qe E10 d12.ext
 have H14 := (d12.ext.blk (n8.ext.blk n3.blk))
 have H15 := (d12.ext.blk n8.blk)
 refine aw_pure 0 (.pointer (some ⟨b1, 0, none⟩)) rfl (by kernel_rfl) .none ⟨H14, H15⟩ (fun _ => dv_fieldAddr (a := ⟨b1, 0, none⟩) (a' := ⟨b1, 0, none⟩) fo90_0 (Z rfl) rfl) <| aw_load 1 (.agg #[.bool na, .slice Aa la ca]) rfl (by kernel_rfl) .none ⟨H14, H15⟩ (fun _ s => dv_loads (l := [.bool na, .slice Aa la ca]) agt88 sz88 (Z rfl) s.1 rfl) <| aw_pure 2 (.pointer (some ⟨b6, 4, none⟩)) rfl (by kernel_rfl) .none ⟨H14, H15⟩ (fun _ => dv_fieldAddr (a := ⟨b6, 0, none⟩) (a' := ⟨b6, 4, none⟩) fo90_2 (Z rfl) rfl) <| aw_load 3 (.agg #[.bool ng, .slice Ag lg cg]) rfl (by kernel_rfl) .none ⟨H14, H15⟩ (fun _ s => dv_loads (l := [.bool ng, .slice Ag lg cg]) agt88 sz88 (Z rfl) s.2 rfl) <| aw_pure 5 (.pointer (some ⟨b6, 0, none⟩)) rfl (by kernel_rfl) .none ⟨H14, H15⟩ (fun _ => dv_fieldAddr (a := ⟨b6, 0, none⟩) (a' := ⟨b6, 0, none⟩) fo90_0 (Z rfl) rfl) <| aw_load 6 (.agg #[.bool ne, .slice Ae le ce]) rfl (by kernel_rfl) .none ⟨H14, H15⟩ (fun _ s => dv_loads (l := [.bool ne, .slice Ae le ce]) agt88 sz88 (Z rfl) s.2 rfl) <| aw_pure 7 (.pointer (some ⟨b1, 4, none⟩)) rfl (by kernel_rfl) .none ⟨H14, H15⟩ (fun _ => dv_fieldAddr (a := ⟨b1, 0, none⟩) (a' := ⟨b1, 4, none⟩) fo90_2 (Z rfl) rfl) <| aw_load 8 (.agg #[.bool nm, .slice Am lm cm]) rfl (by kernel_rfl) .none ⟨H14, H15⟩ (fun _ s => dv_loads (l := [.bool nm, .slice Am lm cm]) agt88 sz88 (Z rfl) s.1 rfl) ?_
 have h16 := (((ha.ext n3.ext).ext n8.ext).ext d12.ext)
 have h17 := (((hg.ext n3.ext).ext n8.ext).ext d12.ext)
 refine aw_one 4 rfl (by kernel_rfl) .none (oe_callf (vs := [.agg #[.bool na, .slice Aa la ca], .agg #[.bool ng, .slice Ag lg cg]]) co109 (ar2 (Z rfl) (Z rfl)) (l1Mul_ok h16 h17 (by first | decide | omega) (by first | decide | omega)) ?_)
 rintro _ w23 ⟨nr18, A19, n20, c21, rfl, e24, h22⟩
 have E25 := qe E13 e24
 have lh22 := ql h22
 have H26 := (e24.blk H14)
 have H27 := (e24.blk H15)
 refine ⟨.inr ⟨H26, H27⟩, ?_⟩
 have h28 := ((((he.ext n3.ext).ext n8.ext).ext d12.ext).ext e24)
 have h29 := ((((hm.ext n3.ext).ext n8.ext).ext d12.ext).ext e24)
 refine aw_one 9 rfl (by kernel_rfl) .none (oe_callf (vs := [.agg #[.bool ne, .slice Ae le ce], .agg #[.bool nm, .slice Am lm cm]]) co109 (ar2 (Z rfl) (Z rfl)) (l1Mul_ok h28 h29 (by first | decide | omega) (by first | decide | omega)) ?_)
 rintro _ w35 ⟨nr30, A31, n32, c33, rfl, e36, h34⟩
 have E37 := qe E25 e36
 have lh34 := ql h34
 have H38 := (e36.blk H26)
 have H39 := (e36.blk H27)
 refine ⟨.inr ⟨H38, H39⟩, ?_⟩
 have h40 := (h22.ext e36)
 refine aw_one 10 rfl (by kernel_rfl) .none (oe_callf (vs := [.agg #[.bool nr18, .slice A19 n20 c21], .agg #[.bool nr30, .slice A31 n32 c33]]) co97 (ar2 (Z rfl) (Z rfl)) (l1Cmp_ok h40 h34 (by first | decide | omega) (by first | decide | omega)) ?_)
 rintro _ w41 ⟨rfl, e42⟩
 have E43 := qe E37 e42
 have H44 := (e42.blk H38)
 have H45 := (e42.blk H39)
 refine ⟨.inr ⟨H44, H45⟩, ?_⟩
 refine aw_last 11 (qi (sgnI ((x * r) - (p * u)))) rfl (by kernel_rfl) .none (fun _ => dv_assign (Z rfl)) <| aw_done (by kernel_rfl) <| rk_ret Try.func62 (v := qi (sgnI ((x * r) - (p * u)))) (res1 Try.results62 (rv_tmp rfl rfl)) ⟨_, rfl, ?_⟩
 exact ⟨(vi (by rfl)), E43⟩
set_option maxHeartbeats 1000000 in
theorem l3CmpY_ok {w : World}  {na : Bool} {Aa : Option Addr} {la ca : Nat} {x : Int} {sx : Nat} (ha : Num 32 168 .u32 w na Aa la ca x sx) {nb : Bool} {Ab : Option Addr} {lb cb : Nat} {y : Int} {sy : Nat} (hb : Num 32 168 .u32 w nb Ab lb cb y sy) {nm : Bool} {Am : Option Addr} {lm cm : Nat} {u : Int} {su : Nat} (hm : Num 32 168 .u32 w nm Am lm cm u su) {ne : Bool} {Ae : Option Addr} {le ce : Nat} {p : Int} {sp : Nat} (he : Num 32 168 .u32 w ne Ae le ce p sp) {nf : Bool} {Af : Option Addr} {lf cf : Nat} {q : Int} {sq : Nat} (hf : Num 32 168 .u32 w nf Af lf cf q sq) {ng : Bool} {Ag : Option Addr} {lg cg : Nat} {r : Int} {sr : Nat} (hg : Num 32 168 .u32 w ng Ag lg cg r sr) (hbsx : sx ≤ 100000) (hbsy : sy ≤ 100000) (hbsu : su ≤ 100000) (hbsp : sp ≤ 100000) (hbsq : sq ≤ 100000) (hbsr : sr ≤ 100000)  : Ct Try.prog 100 [.agg #[.bool na, .slice Aa la ca, .bool nb, .slice Ab lb cb, .bool nm, .slice Am lm cm], .agg #[.bool ne, .slice Ae le ce, .bool nf, .slice Af lf cf, .bool ng, .slice Ag lg cg]] w fun v w1 => v = .int .i64 (sgnI (y * r - q * u)) ∧ Ext w w1 := by
 refine ct_run (n := 16) Try.func100 rfl Try.ntmps100 rfl ?_
 have E0 : Below w.heap.size w w := Below.refl _ _
 have lha := ql ha
 have lhb := ql hb
 have lhm := ql hm
 have lhe := ql he
 have lhf := ql hf
 have lhg := ql hg
 refine rk_seq <| rk_reg <| lw_e (oe_box (v := .agg #[.bool na, .slice Aa la ca, .bool nb, .slice Ab lb cb, .bool nm, .slice Am lm cm]) (cs := #[.bool na, .slice Aa la ca, .bool nb, .slice Ab lb cb, .bool nm, .slice Am lm cm]) (Z rfl) rfl ?_)
 intro b1 w2 n3
 have N4 : w.heap.size ≤ b1 := n3.eq ▸ E0.size
 have E5 := qe E0 n3.ext
 refine lw_e (oe_box (v := .agg #[.bool ne, .slice Ae le ce, .bool nf, .slice Af lf cf, .bool ng, .slice Ag lg cg]) (cs := #[.bool ne, .slice Ae le ce, .bool nf, .slice Af lf cf, .bool ng, .slice Ag lg cg]) (Z rfl) rfl ?_)
 intro b6 w7 n8
 have N9 : w.heap.size ≤ b6 := n8.eq ▸ E5.size
 have : b1 < b6 := n8.eq ▸ lt_of_blk n3.blk
 have E10 := qe E5 n8.ext
 refine lw_v (qi 0) (dv_assign C) <| lw_nil <| rk_seq <| rk_any (fun w => w.heap[b1]? = some (.cells #[.bool na, .slice Aa la ca, .bool nb, .slice Ab lb cb, .bool nm, .slice Am lm cm] 90) ∧ w.heap[b6]? = some (.cells #[.bool ne, .slice Ae le ce, .bool nf, .slice Af lf cf, .bool ng, .slice Ag lg cg] 90)) [11] mo ?_
 intro w11 d12
 have E13 := qe E10 d12.ext
 have H14 := (d12.ext.blk (n8.ext.blk n3.blk))
 have H15 := (d12.ext.blk n8.blk)
 refine aw_pure 0 (.pointer (some ⟨b1, 2, none⟩)) rfl (by kernel_rfl) .none ⟨H14, H15⟩ (fun _ => dv_fieldAddr (a := ⟨b1, 0, none⟩) (a' := ⟨b1, 2, none⟩) fo90_1 (Z rfl) rfl) <| aw_load 1 (.agg #[.bool nb, .slice Ab lb cb]) rfl (by kernel_rfl) .none ⟨H14, H15⟩ (fun _ s => dv_loads (l := [.bool nb, .slice Ab lb cb]) agt88 sz88 (Z rfl) s.1 rfl) <| aw_pure 2 (.pointer (some ⟨b6, 4, none⟩)) rfl (by kernel_rfl) .none ⟨H14, H15⟩ (fun _ => dv_fieldAddr (a := ⟨b6, 0, none⟩) (a' := ⟨b6, 4, none⟩) fo90_2 (Z rfl) rfl) <| aw_load 3 (.agg #[.bool ng, .slice Ag lg cg]) rfl (by kernel_rfl) .none ⟨H14, H15⟩ (fun _ s => dv_loads (l := [.bool ng, .slice Ag lg cg]) agt88 sz88 (Z rfl) s.2 rfl) <| aw_pure 5 (.pointer (some ⟨b6, 2, none⟩)) rfl (by kernel_rfl) .none ⟨H14, H15⟩ (fun _ => dv_fieldAddr (a := ⟨b6, 0, none⟩) (a' := ⟨b6, 2, none⟩) fo90_1 (Z rfl) rfl) <| aw_load 6 (.agg #[.bool nf, .slice Af lf cf]) rfl (by kernel_rfl) .none ⟨H14, H15⟩ (fun _ s => dv_loads (l := [.bool nf, .slice Af lf cf]) agt88 sz88 (Z rfl) s.2 rfl) <| aw_pure 7 (.pointer (some ⟨b1, 4, none⟩)) rfl (by kernel_rfl) .none ⟨H14, H15⟩ (fun _ => dv_fieldAddr (a := ⟨b1, 0, none⟩) (a' := ⟨b1, 4, none⟩) fo90_2 (Z rfl) rfl) <| aw_load 8 (.agg #[.bool nm, .slice Am lm cm]) rfl (by kernel_rfl) .none ⟨H14, H15⟩ (fun _ s => dv_loads (l := [.bool nm, .slice Am lm cm]) agt88 sz88 (Z rfl) s.1 rfl) ?_
 have h16 := (((hb.ext n3.ext).ext n8.ext).ext d12.ext)
 have h17 := (((hg.ext n3.ext).ext n8.ext).ext d12.ext)
 refine aw_one 4 rfl (by kernel_rfl) .none (oe_callf (vs := [.agg #[.bool nb, .slice Ab lb cb], .agg #[.bool ng, .slice Ag lg cg]]) co109 (ar2 (Z rfl) (Z rfl)) (l1Mul_ok h16 h17 (by first | decide | omega) (by first | decide | omega)) ?_)
 rintro _ w23 ⟨nr18, A19, n20, c21, rfl, e24, h22⟩
 have E25 := qe E13 e24
 have lh22 := ql h22
 have H26 := (e24.blk H14)
 have H27 := (e24.blk H15)
 refine ⟨.inr ⟨H26, H27⟩, ?_⟩
 have h28 := ((((hf.ext n3.ext).ext n8.ext).ext d12.ext).ext e24)
 have h29 := ((((hm.ext n3.ext).ext n8.ext).ext d12.ext).ext e24)
 refine aw_one 9 rfl (by kernel_rfl) .none (oe_callf (vs := [.agg #[.bool nf, .slice Af lf cf], .agg #[.bool nm, .slice Am lm cm]]) co109 (ar2 (Z rfl) (Z rfl)) (l1Mul_ok h28 h29 (by first | decide | omega) (by first | decide | omega)) ?_)
 rintro _ w35 ⟨nr30, A31, n32, c33, rfl, e36, h34⟩
 have E37 := qe E25 e36
 have lh34 := ql h34
 have H38 := (e36.blk H26)
 have H39 := (e36.blk H27)
 refine ⟨.inr ⟨H38, H39⟩, ?_⟩
 have h40 := (h22.ext e36)
 refine aw_one 10 rfl (by kernel_rfl) .none (oe_callf (vs := [.agg #[.bool nr18, .slice A19 n20 c21], .agg #[.bool nr30, .slice A31 n32 c33]]) co97 (ar2 (Z rfl) (Z rfl)) (l1Cmp_ok h40 h34 (by first | decide | omega) (by first | decide | omega)) ?_)
 rintro _ w41 ⟨rfl, e42⟩
 have E43 := qe E37 e42
 have H44 := (e42.blk H38)
 have H45 := (e42.blk H39)
 refine ⟨.inr ⟨H44, H45⟩, ?_⟩
 refine aw_last 11 (qi (sgnI ((y * r) - (q * u)))) rfl (by kernel_rfl) .none (fun _ => dv_assign (Z rfl)) <| aw_done (by kernel_rfl) <| rk_ret Try.func100 (v := qi (sgnI ((y * r) - (q * u)))) (res1 Try.results100 (rv_tmp rfl rfl)) ⟨_, rfl, ?_⟩
 exact ⟨(vi (by rfl)), E43⟩
end Go.Proofs.Ytmbpomcbdopgnaa.W
