/- Walks and plain mathematics, packed by a program of this session: declarations that the rows reach. -/
import Derived.Test.YtmbpomcbdopgnaaPvk
set_option linter.unusedVariables false
set_option linter.unusedSimpArgs false
namespace Go.Proofs.Ytmbpomcbdopgnaa.W
open Go Go.RowKit Go.Proofs.Ytmbpomcbdopgnaa.Fw
attribute [local irreducible] RunK LW AW DV OE Ct
set_option maxHeartbeats 1000000 in
theorem l3Make_ok {w : World}  {na : Bool} {Aa : Option Addr} {la ca : Nat} {x : Int} {sx : Nat} (ha : Num 32 168 .u32 w na Aa la ca x sx) {nb : Bool} {Ab : Option Addr} {lb cb : Nat} {y : Int} {sy : Nat} (hb : Num 32 168 .u32 w nb Ab lb cb y sy) {nm : Bool} {Am : Option Addr} {lm cm : Nat} {u : Int} {su : Nat} (hm : Num 32 168 .u32 w nm Am lm cm u su) (hbsx : sx ≤ 100000) (hbsy : sy ≤ 100000) (hbsu : su ≤ 100000) (hu : u ≠ 0) : Ct Try.prog 138 [.agg #[.bool na, .slice Aa la ca], .agg #[.bool nb, .slice Ab lb cb], .agg #[.bool nm, .slice Am lm cm]] w fun v w1 => ∃ nr0_ A0_ l0_ c0_ nr1_ A1_ l1_ c1_ nr2_ A2_ l2_ c2_, v = .agg #[.bool nr0_, .slice A0_ l0_ c0_, .bool nr1_, .slice A1_ l1_ c1_, .bool nr2_, .slice A2_ l2_ c2_] ∧ Ext w w1 ∧ Num 32 168 .u32 w1 nr0_ A0_ l0_ c0_ (pPt x y u x) (sx) ∧ Num 32 168 .u32 w1 nr1_ A1_ l1_ c1_ (pPt x y u y) (sy) ∧ Num 32 168 .u32 w1 nr2_ A2_ l2_ c2_ (pPt x y u u) (su) := by
 refine ct_run (n := 47) Try.func138 rfl Try.ntmps138 rfl ?_
 have E0 : Below w.heap.size w w := Below.refl _ _
 have lha := ql ha
 have lhb := ql hb
 have lhm := ql hm
 refine rk_seq <| rk_reg <| lw_e (oe_box (v := .agg #[.bool na, .slice Aa la ca]) (cs := #[.bool na, .slice Aa la ca]) (Z rfl) rfl ?_)
 intro b1 w2 n3
 have N4 : w.heap.size ≤ b1 := n3.eq ▸ E0.size
 have E5 := qe E0 n3.ext
 refine lw_e (oe_box (v := .agg #[.bool nb, .slice Ab lb cb]) (cs := #[.bool nb, .slice Ab lb cb]) (Z rfl) rfl ?_)
 intro b6 w7 n8
 have N9 : w.heap.size ≤ b6 := n8.eq ▸ E5.size
 have : b1 < b6 := n8.eq ▸ lt_of_blk n3.blk
 have E10 := qe E5 n8.ext
 refine lw_e (oe_box (v := .agg #[.bool nm, .slice Am lm cm]) (cs := #[.bool nm, .slice Am lm cm]) (Z rfl) rfl ?_)
 intro b11 w12 n13
 have N14 : w.heap.size ≤ b11 := n13.eq ▸ E10.size
 have : b6 < b11 := n13.eq ▸ lt_of_blk n8.blk
 have E15 := qe E10 n13.ext
 refine lw_e (oe_alloc ze90 ?_)
 intro b16 w17 n18
 have N19 : w.heap.size ≤ b16 := n18.eq ▸ E15.size
 have : b11 < b16 := n18.eq ▸ lt_of_blk n13.blk
 have E20 := qe E15 n18.ext
 refine lw_nil <| rk_seq <| rk_seq <| rk_reg <| lw_v (.pointer (some ⟨b11, 0, none⟩)) (dv_fieldAddr (a := ⟨b11, 0, none⟩) (a' := ⟨b11, 0, none⟩) fo88_0 (Z rfl) rfl) ?_
 have H21 := (n18.ext.blk n13.blk)
 refine lw_v (.bool nm) (dv_load1 (b := b11) (o := 0) agt4 (Z rfl) H21 rfl) <| lw_nil ?_
 rcases Bool.eq_false_or_eq_true (nm) with hb22 | hb22
 · refine rk_ct (T rfl (congrArg Value.bool hb22)) <| rk_join (fun fr wl => ∃ (nr30 : Bool) (A31 : Option Addr) (n32 : Nat) (c33 : Nat) (nr41 : Bool) (A42 : Option Addr) (n43 : Nat) (c44 : Nat) (nr51 : Bool) (A52 : Option Addr) (n53 : Nat) (c54 : Nat), fr 3 = .pointer (some ⟨b1, 0, none⟩) ∧ fr 4 = .pointer (some ⟨b6, 0, none⟩) ∧ fr 5 = .pointer (some ⟨b11, 0, none⟩) ∧ fr 6 = .pointer (some ⟨b16, 0, none⟩) ∧ Below w.heap.size w wl ∧ wl.heap[b1]? = some (.cells #[.bool nr30, .slice A31 n32 c33] 88) ∧ wl.heap[b6]? = some (.cells #[.bool nr41, .slice A42 n43 c44] 88) ∧ wl.heap[b11]? = some (.cells #[.bool nr51, .slice A52 n53 c54] 88) ∧ wl.heap[b16]? = some (.cells #[.bool false, .slice none 0 0, .bool false, .slice none 0 0, .bool false, .slice none 0 0] 90) ∧ Num 32 168 .u32 wl nr30 A31 n32 c33 (-x) sx ∧ Num 32 168 .u32 wl nr41 A42 n43 c44 (-y) sy ∧ Num 32 168 .u32 wl nr51 A52 n53 c54 (-u) su) ?_ (fun hj76 => ?_)
   · intro fr77 w74 hI75
     obtain ⟨nr30, A31, n32, c33, nr41, A42, n43, c44, nr51, A52, n53, c54, f78, f79, f80, f81, E82, H83, H84, H85, H86, h87, h88, h89⟩ := hI75
     have lh87 := ql h87
     have lh88 := ql h88
     have lh89 := ql h89
     have : w.heap.size ≤ b1 := N4
     have : w.heap.size ≤ b6 := N9
     have : w.heap.size ≤ b11 := N14
     have : w.heap.size ≤ b16 := N19
     refine rk_seq ?_
     have : b1 < w74.heap.size := lt_of_blk H83
     have : b6 < w74.heap.size := lt_of_blk H84
     have : b11 < w74.heap.size := lt_of_blk H85
     have : b16 < w74.heap.size := lt_of_blk H86
     have : w.heap.size ≤ w74.heap.size := E82.size
     refine rk_par2 [fun vq wq_ => vq = .agg #[.bool nr30, .slice A31 n32 c33], fun vq wq_ => vq = .agg #[.bool nr41, .slice A42 n43 c44], fun vq wq_ => ∃ (nr114 : Bool) (A115 : Option Addr) (n116 : Nat) (c117 : Nat), vq = .agg #[.bool nr114, .slice A115 n116 c117] ∧ Num 32 168 .u32 wq_ nr114 A115 n116 c117 (gI (-x) (-y)) (max sx sy), fun vq wq_ => vq = .agg #[.bool nr51, .slice A52 n53 c54], fun vq wq_ => ∃ (nr143 : Bool) (A144 : Option Addr) (n145 : Nat) (c146 : Nat), vq = .agg #[.bool nr143, .slice A144 n145 c146] ∧ Num 32 168 .u32 wq_ nr143 A144 n145 c146 (gI (gI (-x) (-y)) (-u)) ((max (max sx sy) su)), fun _ _ => True, fun _ _ => True] [⟨5, 6, 4, 88, #[.bool false, .slice none 0 0]⟩] [88] mo (by kernel_rfl) (by kernel_rfl) ?_ ?_ ?_ ?_ ?_
     · intro e he e2 he2 h; simp only [List.mem_cons, List.not_mem_nil, or_false] at he he2; rcases he with rfl <;> rcases he2 with rfl <;> first | rfl | exact absurd h (by decide)
     · exact ⟨⟨fun v w w2 e h => h, fun v w w2 b cs T fz s hb hT h => h⟩, ⟨fun v w w2 e h => h, fun v w w2 b cs T fz s hb hT h => h⟩, ⟨fun v w w2 e ⟨nr114, A115, n116, c117, hv, h0_⟩ => ⟨nr114, A115, n116, c117, hv, h0_.ext e⟩, fun v w w2 b cs T fz s hb hT ⟨nr114, A115, n116, c117, hv, h0_⟩ => ⟨nr114, A115, n116, c117, hv, h0_.st s hb (ts_ne hT (by decide))⟩⟩, ⟨fun v w w2 e h => h, fun v w w2 b cs T fz s hb hT h => h⟩, ⟨fun v w w2 e ⟨nr143, A144, n145, c146, hv, h0_⟩ => ⟨nr143, A144, n145, c146, hv, h0_.ext e⟩, fun v w w2 b cs T fz s hb hT ⟨nr143, A144, n145, c146, hv, h0_⟩ => ⟨nr143, A144, n145, c146, hv, h0_.st s hb (ts_ne hT (by decide))⟩⟩, ⟨fun v w w2 e h => h, fun v w w2 b cs T fz s hb hT h => h⟩, ⟨fun v w w2 e h => h, fun v w w2 b cs T fz s hb hT h => h⟩, trivial⟩
     · refine ⟨?_, ?_, ?_, ?_, ?_, ?_, ?_, trivial⟩
       · refine .inr ⟨by kernel_rfl, ?_⟩
         intro fr91 w90 e92 hF93 hD94
         have E95 := qe E82 e92
         have H96 := (e92.blk H83)
         exact DV.oe (dv_loads (l := [.bool nr30, .slice A31 n32 c33]) agt88 sz88 (T rfl ((hF93 3 (by kernel_rfl)).trans f78)) H96 rfl) ⟨Below.refl _ _, rfl⟩
       · refine .inr ⟨by kernel_rfl, ?_⟩
         intro fr98 w97 e99 hF100 hD101
         have E102 := qe E82 e99
         have H103 := (e99.blk H84)
         exact DV.oe (dv_loads (l := [.bool nr41, .slice A42 n43 c44]) agt88 sz88 (T rfl ((hF100 4 (by kernel_rfl)).trans f79)) H103 rfl) ⟨Below.refl _ _, rfl⟩
       · refine .inr ⟨by kernel_rfl, ?_⟩
         intro fr105 w104 e106 hF107 hD108
         have E109 := qe E82 e106
         have hv110 : fr105 16 = .agg #[.bool nr30, .slice A31 n32 c33] := hD108 0 _ (by kernel_rfl) rfl (by kernel_rfl)
         have hv111 : fr105 17 = .agg #[.bool nr41, .slice A42 n43 c44] := hD108 1 _ (by kernel_rfl) rfl (by kernel_rfl)
         have h112 := (h87.ext e106)
         have h113 := (h88.ext e106)
         refine oe_callf (vs := [.agg #[.bool nr30, .slice A31 n32 c33], .agg #[.bool nr41, .slice A42 n43 c44]]) co98 (ar2 (T rfl hv110) (T rfl hv111)) (l1Gcd_ok h112 h113 (by first | decide | omega) (by first | decide | omega)) ?_
         rintro _ w119 ⟨nr114, A115, n116, c117, rfl, e120, h118⟩
         have E121 := qe E109 e120
         have lh118 := ql h118
         exact ⟨e120, nr114, A115, n116, c117, rfl, h118⟩
       · refine .inr ⟨by kernel_rfl, ?_⟩
         intro fr123 w122 e124 hF125 hD126
         have E127 := qe E82 e124
         have H128 := (e124.blk H85)
         exact DV.oe (dv_loads (l := [.bool nr51, .slice A52 n53 c54]) agt88 sz88 (T rfl ((hF125 5 (by kernel_rfl)).trans f80)) H128 rfl) ⟨Below.refl _ _, rfl⟩
       · refine .inr ⟨by kernel_rfl, ?_⟩
         intro fr130 w129 e131 hF132 hD133
         have E134 := qe E82 e131
         obtain ⟨nr135, A136, n137, c138, hv139, hp140⟩ : ∃ (nr114 : Bool) (A115 : Option Addr) (n116 : Nat) (c117 : Nat), fr130 18 = .agg #[.bool nr114, .slice A115 n116 c117] ∧ Num 32 168 .u32 w129 nr114 A115 n116 c117 (gI (-x) (-y)) ((max sx sy)) := hD133 2 _ (by kernel_rfl) rfl (by kernel_rfl)
         have lhp140 := ql hp140
         have hv141 : fr130 19 = .agg #[.bool nr51, .slice A52 n53 c54] := hD133 3 _ (by kernel_rfl) rfl (by kernel_rfl)
         have h142 := (h89.ext e131)
         refine oe_callf (vs := [.agg #[.bool nr135, .slice A136 n137 c138], .agg #[.bool nr51, .slice A52 n53 c54]]) co98 (ar2 (T rfl hv139) (T rfl hv141)) (l1Gcd_ok hp140 h142 (by first | decide | omega) (by first | decide | omega)) ?_
         rintro _ w148 ⟨nr143, A144, n145, c146, rfl, e149, h147⟩
         have E150 := qe E134 e149
         have lh147 := ql h147
         exact ⟨e149, nr143, A144, n145, c146, rfl, h147⟩
       · exact .inl (.inr ⟨by kernel_rfl, fun _ _ => trivial⟩)
       exact .inl (.inl (by kernel_rfl))
     · refine ⟨⟨⟨_, rfl, fun _ _ => oe_alloc ze88 fun b w hn => ⟨b, rfl, hn⟩⟩, ⟨_, rfl, ?_⟩⟩, trivial⟩
       intro fr152 w151 b156 e153 hF154 hD155 hA157 hB158
       have E159 := qe E82 e153
       obtain ⟨nr160, A161, n162, c163, hv164, hp165⟩ : ∃ (nr143 : Bool) (A144 : Option Addr) (n145 : Nat) (c146 : Nat), fr152 20 = .agg #[.bool nr143, .slice A144 n145 c146] ∧ Num 32 168 .u32 w151 nr143 A144 n145 c146 (gI (gI (-x) (-y)) (-u)) ((max (max sx sy) su)) := hD155 4 _ (by kernel_rfl) rfl (by kernel_rfl)
       have lhp165 := ql hp165
       refine oe_store (v := .agg #[.bool nr160, .slice A161 n162 c163]) (vs := [.bool nr160, .slice A161 n162 c163]) (l := [.bool nr160, .slice A161 n162 c163]) (T rfl hA157) (T rfl hv164) sz88 rfl rfl rfl hB158 rfl ?_
       intro w166 s167 H168
       exact ⟨s167, H168.trans (congrArg (fun v : Value => some (Obj.cells v.cells 88)) (show fr152 20 = _ from hv164).symm)⟩
     intro fr171 w170 e172 hF173 hP174 hM175 hN176
     have E177 := qe E82 e172
     obtain ⟨_, _, _, _, p178, _, _, _⟩ := hP174
     obtain ⟨nr179, A180, n181, c182, hv183, hp184⟩ : ∃ (nr143 : Bool) (A144 : Option Addr) (n145 : Nat) (c146 : Nat), fr171 20 = .agg #[.bool nr143, .slice A144 n145 c146] ∧ Num 32 168 .u32 w170 nr143 A144 n145 c146 (gI (gI (-x) (-y)) (-u)) ((max (max sx sy) su)) := p178.resolve_left (nst (by kernel_rfl))
     have lhp184 := ql hp184
     obtain ⟨⟨b185, hA186, hB187, hC188⟩, _⟩ := hM175
     have H189 : w170.heap[b185]? = some (.cells #[.bool nr179, .slice A180 n181 c182] 88) := hC188.trans (congrArg (fun v : Value => some (Obj.cells v.cells 88)) hv183)
     have N190 : w.heap.size ≤ b185 := by omega
     refine rk_seq <| rk_seq <| rk_any (fun w => w.heap[b185]? = some (.cells #[.bool nr179, .slice A180 n181 c182] 88)) [] mo ?_
     intro w191 d192
     have E193 := qe E177 d192.ext
     have H194 := (d192.ext.blk H189)
     refine aw_load 0 (.agg #[.bool nr179, .slice A180 n181 c182]) rfl (by kernel_rfl) .none H194 (fun _ s => dv_loads (l := [.bool nr179, .slice A180 n181 c182]) agt88 sz88 (T rfl hA186) s rfl) <| aw_one 1 rfl (by kernel_rfl) .none (oe_callf (vs := [qi 1]) co99 (ar1 C) (l1Int_ok  (by omega)) ?_)
     rintro _ w200 ⟨nr195, A196, n197, c198, rfl, e201, h199⟩
     have E202 := qe E193 e201
     have lh199 := ql h199
     have H203 := (e201.blk H194)
     refine ⟨.inr H203, ?_⟩
     have h204 := ((hp184.ext d192.ext).ext e201)
     refine aw_one 2 rfl (by kernel_rfl) .none (oe_callf (vs := [.agg #[.bool nr179, .slice A180 n181 c182], .agg #[.bool nr195, .slice A196 n197 c198]]) co97 (ar2 (Z rfl) (Z rfl)) (l1Cmp_ok h204 h199 (by first | decide | omega) (by first | decide | omega)) ?_)
     rintro _ w205 ⟨rfl, e206⟩
     have E207 := qe E202 e206
     have H208 := (e206.blk H203)
     refine ⟨.inr H208, ?_⟩
     refine aw_pure 3 (qd ((sgnI ((gI (gI (-x) (-y)) (-u)) - 1)) ≠ 0)) rfl (by kernel_rfl) .none H208 (fun _ => dv_neq (a := sgnI ((gI (gI (-x) (-y)) (-u)) - 1)) (b := 0) (Z rfl) C) <| aw_done (by kernel_rfl) ?_
     by_cases hb209 : (sgnI ((gI (gI (-x) (-y)) (-u)) - 1)) ≠ 0
     · refine rk_ct (T rfl (qT hb209)) <| rk_seq <| rk_reg ?_
       have H210 := (e206.blk (e201.blk (d192.ext.blk (e172.blk H83))))
       refine lw_v (.agg #[.bool nr30, .slice A31 n32 c33]) (dv_loads (l := [.bool nr30, .slice A31 n32 c33]) agt88 sz88 (T rfl ((hF173 3 rfl).trans f78)) H210 rfl) <| lw_v (.agg #[.bool nr179, .slice A180 n181 c182]) (dv_loads (l := [.bool nr179, .slice A180 n181 c182]) agt88 sz88 (T rfl hA186) H208 rfl) ?_
       have h211 := ((((h87.ext e172).ext d192.ext).ext e201).ext e206)
       have h212 := (h204.ext e206)
       refine lw_e (oe_callf (vs := [.agg #[.bool nr30, .slice A31 n32 c33], .agg #[.bool nr179, .slice A180 n181 c182]]) co150 (ar2 (Z rfl) (Z rfl)) (l1Div_ok h211 h212 (Int.ne_of_gt (gI_pos (Int.neg_ne_zero.2 hu))) (by first | decide | omega) (by first | decide | omega)) ?_)
       rintro _ w223 ⟨nr213, A214, n215, c216, nr217, A218, n219, c220, rfl, e224, h221, h222⟩
       have E225 := qe E207 e224
       have lh221 := ql h221
       have lh222 := ql h222
       refine qm (.tuple #[.agg #[.bool nr213, .slice A214 n215 c216], .agg #[.bool nr217, .slice A218 n219 c220]]) rfl rfl <| lw_v (.agg #[.bool nr213, .slice A214 n215 c216]) (dv_extract (vs := #[.agg #[.bool nr213, .slice A214 n215 c216], .agg #[.bool nr217, .slice A218 n219 c220]]) (Z rfl) rfl) <| lw_v (.agg #[.bool nr217, .slice A218 n219 c220]) (dv_extract (vs := #[.agg #[.bool nr213, .slice A214 n215 c216], .agg #[.bool nr217, .slice A218 n219 c220]]) (Z rfl) rfl) ?_
       have H226 := (e224.blk H210)
       refine lw_e (oe_store (v := .agg #[.bool nr213, .slice A214 n215 c216]) (vs := [.bool nr213, .slice A214 n215 c216]) (l := [.bool nr213, .slice A214 n215 c216]) (T rfl ((hF173 3 rfl).trans f78)) (Z rfl) sz88 rfl rfl rfl H226 rfl ?_)
       intro w227 s228 H229
       have E230 := below_st E225 N4 s228
       refine qN ?_
       have H231 := (s228.blk (e224.blk (e206.blk (e201.blk (d192.ext.blk (e172.blk H84))))) (by omega))
       refine lw_v (.agg #[.bool nr41, .slice A42 n43 c44]) (dv_loads (l := [.bool nr41, .slice A42 n43 c44]) agt88 sz88 (T rfl ((hF173 4 rfl).trans f79)) H231 rfl) ?_
       have H232 := (s228.blk (e224.blk H208) (by omega))
       refine lw_v (.agg #[.bool nr179, .slice A180 n181 c182]) (dv_loads (l := [.bool nr179, .slice A180 n181 c182]) agt88 sz88 (T rfl hA186) H232 rfl) ?_
       have h233 := ((((((h88.ext e172).ext d192.ext).ext e201).ext e206).ext e224).st s228 H226 (by decide))
       have h234 := ((h212.ext e224).st s228 H226 (by decide))
       refine lw_e (oe_callf (vs := [.agg #[.bool nr41, .slice A42 n43 c44], .agg #[.bool nr179, .slice A180 n181 c182]]) co150 (ar2 (Z rfl) (Z rfl)) (l1Div_ok h233 h234 (Int.ne_of_gt (gI_pos (Int.neg_ne_zero.2 hu))) (by first | decide | omega) (by first | decide | omega)) ?_)
       rintro _ w245 ⟨nr235, A236, n237, c238, nr239, A240, n241, c242, rfl, e246, h243, h244⟩
       have E247 := qe E230 e246
       have lh243 := ql h243
       have lh244 := ql h244
       refine qm (.tuple #[.agg #[.bool nr235, .slice A236 n237 c238], .agg #[.bool nr239, .slice A240 n241 c242]]) rfl rfl <| lw_v (.agg #[.bool nr235, .slice A236 n237 c238]) (dv_extract (vs := #[.agg #[.bool nr235, .slice A236 n237 c238], .agg #[.bool nr239, .slice A240 n241 c242]]) (Z rfl) rfl) <| lw_v (.agg #[.bool nr239, .slice A240 n241 c242]) (dv_extract (vs := #[.agg #[.bool nr235, .slice A236 n237 c238], .agg #[.bool nr239, .slice A240 n241 c242]]) (Z rfl) rfl) ?_
       have H248 := (e246.blk H231)
       refine lw_e (oe_store (v := .agg #[.bool nr235, .slice A236 n237 c238]) (vs := [.bool nr235, .slice A236 n237 c238]) (l := [.bool nr235, .slice A236 n237 c238]) (T rfl ((hF173 4 rfl).trans f79)) (Z rfl) sz88 rfl rfl rfl H248 rfl ?_)
       intro w249 s250 H251
       have E252 := below_st E247 N9 s250
       refine lw_nil <| rk_reg ?_
       have H253 := (s250.blk (e246.blk (s228.blk (e224.blk (e206.blk (e201.blk (d192.ext.blk (e172.blk H85))))) (by omega))) (by omega))
       refine lw_v (.agg #[.bool nr51, .slice A52 n53 c54]) (dv_loads (l := [.bool nr51, .slice A52 n53 c54]) agt88 sz88 (T rfl ((hF173 5 rfl).trans f80)) H253 rfl) ?_
       have H254 := (s250.blk (e246.blk H232) (by omega))
       refine lw_v (.agg #[.bool nr179, .slice A180 n181 c182]) (dv_loads (l := [.bool nr179, .slice A180 n181 c182]) agt88 sz88 (T rfl hA186) H254 rfl) ?_
       have h255 := ((((((((h89.ext e172).ext d192.ext).ext e201).ext e206).ext e224).st s228 H226 (by decide)).ext e246).st s250 H248 (by decide))
       have h256 := ((h234.ext e246).st s250 H248 (by decide))
       refine lw_e (oe_callf (vs := [.agg #[.bool nr51, .slice A52 n53 c54], .agg #[.bool nr179, .slice A180 n181 c182]]) co150 (ar2 (Z rfl) (Z rfl)) (l1Div_ok h255 h256 (Int.ne_of_gt (gI_pos (Int.neg_ne_zero.2 hu))) (by first | decide | omega) (by first | decide | omega)) ?_)
       rintro _ w267 ⟨nr257, A258, n259, c260, nr261, A262, n263, c264, rfl, e268, h265, h266⟩
       have E269 := qe E252 e268
       have lh265 := ql h265
       have lh266 := ql h266
       refine qm (.tuple #[.agg #[.bool nr257, .slice A258 n259 c260], .agg #[.bool nr261, .slice A262 n263 c264]]) rfl rfl <| lw_v (.agg #[.bool nr257, .slice A258 n259 c260]) (dv_extract (vs := #[.agg #[.bool nr257, .slice A258 n259 c260], .agg #[.bool nr261, .slice A262 n263 c264]]) (Z rfl) rfl) <| lw_v (.agg #[.bool nr261, .slice A262 n263 c264]) (dv_extract (vs := #[.agg #[.bool nr257, .slice A258 n259 c260], .agg #[.bool nr261, .slice A262 n263 c264]]) (Z rfl) rfl) ?_
       have H270 := (e268.blk H253)
       refine lw_e (oe_store (v := .agg #[.bool nr257, .slice A258 n259 c260]) (vs := [.bool nr257, .slice A258 n259 c260]) (l := [.bool nr257, .slice A258 n259 c260]) (T rfl ((hF173 5 rfl).trans f80)) (Z rfl) sz88 rfl rfl rfl H270 rfl ?_)
       intro w271 s272 H273
       have E274 := below_st E269 N14 s272
       refine qN ?_
       have H275 := (s272.blk (e268.blk (s250.blk (e246.blk H229) (by omega))) (by omega))
       refine lw_v (.agg #[.bool nr213, .slice A214 n215 c216]) (dv_loads (l := [.bool nr213, .slice A214 n215 c216]) agt88 sz88 (T rfl ((hF173 3 rfl).trans f78)) H275 rfl) ?_
       have H276 := (s272.blk (e268.blk H251) (by omega))
       refine lw_v (.agg #[.bool nr235, .slice A236 n237 c238]) (dv_loads (l := [.bool nr235, .slice A236 n237 c238]) agt88 sz88 (T rfl ((hF173 4 rfl).trans f79)) H276 rfl) <| lw_v (.agg #[.bool nr257, .slice A258 n259 c260]) (dv_loads (l := [.bool nr257, .slice A258 n259 c260]) agt88 sz88 (T rfl ((hF173 5 rfl).trans f80)) H273 rfl) <| lw_v (.agg #[.bool nr213, .slice A214 n215 c216, .bool nr235, .slice A236 n237 c238, .bool nr257, .slice A258 n259 c260]) (dv_build (pv := [(0, .agg #[.bool nr213, .slice A214 n215 c216]), (1, .agg #[.bool nr235, .slice A236 n237 c238]), (2, .agg #[.bool nr257, .slice A258 n259 c260])]) (l := [.bool nr213, .slice A214 n215 c216, .bool nr235, .slice A236 n237 c238, .bool nr257, .slice A258 n259 c260]) zc90 pl90 ⟨rfl, (Z rfl), ⟨rfl, (Z rfl), ⟨rfl, (Z rfl), trivial⟩⟩⟩ rfl) ?_
       have H277 := (s272.blk (e268.blk (s250.blk (e246.blk (s228.blk (e224.blk (e206.blk (e201.blk (d192.ext.blk (e172.blk H86))))) (by omega))) (by omega))) (by omega))
       refine lw_e (oe_store (v := .agg #[.bool nr213, .slice A214 n215 c216, .bool nr235, .slice A236 n237 c238, .bool nr257, .slice A258 n259 c260]) (vs := [.bool nr213, .slice A214 n215 c216, .bool nr235, .slice A236 n237 c238, .bool nr257, .slice A258 n259 c260]) (l := [.bool nr213, .slice A214 n215 c216, .bool nr235, .slice A236 n237 c238, .bool nr257, .slice A258 n259 c260]) (T rfl ((hF173 6 rfl).trans f81)) (Z rfl) sz90 rfl rfl rfl H277 rfl ?_)
       intro w278 s279 H280
       have E281 := below_st E274 N19 s279
       refine lw_nil <| rk_ret Try.func138 (v := .agg #[.bool nr213, .slice A214 n215 c216, .bool nr235, .slice A236 n237 c238, .bool nr257, .slice A258 n259 c260]) (res1 Try.results138 (rv_cells (l := [.bool nr213, .slice A214 n215 c216, .bool nr235, .slice A236 n237 c238, .bool nr257, .slice A258 n259 c260]) agt90 sz90 rfl ((hF173 6 rfl).trans f81) H280 rfl)) ⟨_, rfl, ?_⟩
       have h282 := ((((((h221.st s228 H226 (by decide)).ext e246).st s250 H248 (by decide)).ext e268).st s272 H270 (by decide)).st s279 H277 (by decide))
       have h283 := ((((h243.st s250 H248 (by decide)).ext e268).st s272 H270 (by decide)).st s279 H277 (by decide))
       have h284 := ((h265.st s272 H270 (by decide)).st s279 H277 (by decide))
       exact ⟨_, _, _, _, _, _, _, _, _, _, _, _, rfl, E281, h282.to ((by have hgn : gI (gI (-x) (-y)) (-u) = gI3 x y u := (by unfold gI3; rw [gI_neg, gI_negr]); unfold pPt; rw [if_pos (hm.neg_iff.1 (by assumption)), hgn])) (Nat.le_refl _), h283.to ((by have hgn : gI (gI (-x) (-y)) (-u) = gI3 x y u := (by unfold gI3; rw [gI_neg, gI_negr]); unfold pPt; rw [if_pos (hm.neg_iff.1 (by assumption)), hgn])) (Nat.le_refl _), h284.to ((by have hgn : gI (gI (-x) (-y)) (-u) = gI3 x y u := (by unfold gI3; rw [gI_neg, gI_negr]); unfold pPt; rw [if_pos (hm.neg_iff.1 (by assumption)), hgn])) (Nat.le_refl _)⟩
     refine rk_cf (T rfl (qF hb209)) <| rk_skip <| rk_seq <| rk_reg ?_
     have H285 := (e206.blk (e201.blk (d192.ext.blk (e172.blk H83))))
     refine lw_v (.agg #[.bool nr30, .slice A31 n32 c33]) (dv_loads (l := [.bool nr30, .slice A31 n32 c33]) agt88 sz88 (T rfl ((hF173 3 rfl).trans f78)) H285 rfl) ?_
     have H286 := (e206.blk (e201.blk (d192.ext.blk (e172.blk H84))))
     refine lw_v (.agg #[.bool nr41, .slice A42 n43 c44]) (dv_loads (l := [.bool nr41, .slice A42 n43 c44]) agt88 sz88 (T rfl ((hF173 4 rfl).trans f79)) H286 rfl) ?_
     have H287 := (e206.blk (e201.blk (d192.ext.blk (e172.blk H85))))
     refine lw_v (.agg #[.bool nr51, .slice A52 n53 c54]) (dv_loads (l := [.bool nr51, .slice A52 n53 c54]) agt88 sz88 (T rfl ((hF173 5 rfl).trans f80)) H287 rfl) <| lw_v (.agg #[.bool nr30, .slice A31 n32 c33, .bool nr41, .slice A42 n43 c44, .bool nr51, .slice A52 n53 c54]) (dv_build (pv := [(0, .agg #[.bool nr30, .slice A31 n32 c33]), (1, .agg #[.bool nr41, .slice A42 n43 c44]), (2, .agg #[.bool nr51, .slice A52 n53 c54])]) (l := [.bool nr30, .slice A31 n32 c33, .bool nr41, .slice A42 n43 c44, .bool nr51, .slice A52 n53 c54]) zc90 pl90 ⟨rfl, (Z rfl), ⟨rfl, (Z rfl), ⟨rfl, (Z rfl), trivial⟩⟩⟩ rfl) ?_
     have H288 := (e206.blk (e201.blk (d192.ext.blk (e172.blk H86))))
     refine lw_e (oe_store (v := .agg #[.bool nr30, .slice A31 n32 c33, .bool nr41, .slice A42 n43 c44, .bool nr51, .slice A52 n53 c54]) (vs := [.bool nr30, .slice A31 n32 c33, .bool nr41, .slice A42 n43 c44, .bool nr51, .slice A52 n53 c54]) (l := [.bool nr30, .slice A31 n32 c33, .bool nr41, .slice A42 n43 c44, .bool nr51, .slice A52 n53 c54]) (T rfl ((hF173 6 rfl).trans f81)) (Z rfl) sz90 rfl rfl rfl H288 rfl ?_)
     intro w289 s290 H291
     have E292 := below_st E207 N19 s290
     refine lw_nil <| rk_ret Try.func138 (v := .agg #[.bool nr30, .slice A31 n32 c33, .bool nr41, .slice A42 n43 c44, .bool nr51, .slice A52 n53 c54]) (res1 Try.results138 (rv_cells (l := [.bool nr30, .slice A31 n32 c33, .bool nr41, .slice A42 n43 c44, .bool nr51, .slice A52 n53 c54]) agt90 sz90 rfl ((hF173 6 rfl).trans f81) H291 rfl)) ⟨_, rfl, ?_⟩
     have h293 := (((((h87.ext e172).ext d192.ext).ext e201).ext e206).st s290 H288 (by decide))
     have h294 := (((((h88.ext e172).ext d192.ext).ext e201).ext e206).st s290 H288 (by decide))
     have h295 := (((((h89.ext e172).ext d192.ext).ext e201).ext e206).st s290 H288 (by decide))
     exact ⟨_, _, _, _, _, _, _, _, _, _, _, _, rfl, E292, h293.to ((by have hgn : gI (gI (-x) (-y)) (-u) = gI3 x y u := (by unfold gI3; rw [gI_neg, gI_negr]); have h1 : gI (gI (-x) (-y)) (-u) = 1 := (by have := @sgnI_zero (gI (gI (-x) (-y)) (-u) - 1); omega); unfold pPt; rw [if_pos (hm.neg_iff.1 (by assumption)), ← hgn, h1, Int.ediv_one])) (Nat.le_refl _), h294.to ((by have hgn : gI (gI (-x) (-y)) (-u) = gI3 x y u := (by unfold gI3; rw [gI_neg, gI_negr]); have h1 : gI (gI (-x) (-y)) (-u) = 1 := (by have := @sgnI_zero (gI (gI (-x) (-y)) (-u) - 1); omega); unfold pPt; rw [if_pos (hm.neg_iff.1 (by assumption)), ← hgn, h1, Int.ediv_one])) (Nat.le_refl _), h295.to ((by have hgn : gI (gI (-x) (-y)) (-u) = gI3 x y u := (by unfold gI3; rw [gI_neg, gI_negr]); have h1 : gI (gI (-x) (-y)) (-u) = 1 := (by have := @sgnI_zero (gI (gI (-x) (-y)) (-u) - 1); omega); unfold pPt; rw [if_pos (hm.neg_iff.1 (by assumption)), ← hgn, h1, Int.ediv_one])) (Nat.le_refl _)⟩
   refine rk_any (fun _ => True) [] mo ?_
   intro w296 d297
   have E298 := qe E20 d297.ext
   have H299 := (d297.ext.blk (n18.ext.blk (n13.ext.blk (n8.ext.blk n3.blk))))
   have H300 := (d297.ext.blk (n18.ext.blk (n13.ext.blk n8.blk)))
   have H301 := (d297.ext.blk H21)
   refine aw_three 0 2 4 rfl rfl rfl (by kernel_rfl) .none .none .none ?_ ?_ ?_
   · refine DV.oe (dv_loads (l := [.bool na, .slice Aa la ca]) agt88 sz88 (Z rfl) H299 rfl) <| qr <| aw_three 1 2 4 rfl rfl rfl (by kernel_rfl) .none .none .none ?_ ?_ ?_
     · have h302 := (((((ha.ext n3.ext).ext n8.ext).ext n13.ext).ext n18.ext).ext d297.ext)
       refine oe_callf (vs := [.agg #[.bool na, .slice Aa la ca]]) co144 (ar1 (Z rfl)) (l1Neg_ok h302 ) ?_
       rintro _ w308 ⟨nr303, A304, n305, c306, rfl, e309, h307⟩
       have E310 := qe E298 e309
       have lh307 := ql h307
       refine qr ?_
       have H311 := (e309.blk H300)
       have H312 := (e309.blk H301)
       refine aw_two 2 4 rfl rfl (by kernel_rfl) .none .none ?_ ?_
       · refine DV.oe (dv_loads (l := [.bool nb, .slice Ab lb cb]) agt88 sz88 (Z rfl) H311 rfl) <| qr <| aw_two 3 4 rfl rfl (by kernel_rfl) .none .none ?_ ?_
         · have h313 := ((((((hb.ext n3.ext).ext n8.ext).ext n13.ext).ext n18.ext).ext d297.ext).ext e309)
           refine oe_callf (vs := [.agg #[.bool nb, .slice Ab lb cb]]) co144 (ar1 (Z rfl)) (l1Neg_ok h313 ) ?_
           rintro _ w319 ⟨nr314, A315, n316, c317, rfl, e320, h318⟩
           have E321 := qe E310 e320
           have lh318 := ql h318
           refine qr ?_
           have H322 := (e320.blk H312)
           refine aw_one 4 rfl (by kernel_rfl) .none (DV.oe (dv_loads (l := [.bool nm, .slice Am lm cm]) agt88 sz88 (Z rfl) H322 rfl) ?_)
           refine qr ?_
           have h323 := (((((((hm.ext n3.ext).ext n8.ext).ext n13.ext).ext n18.ext).ext d297.ext).ext e309).ext e320)
           refine aw_one 5 rfl (by kernel_rfl) .none (oe_callf (vs := [.agg #[.bool nm, .slice Am lm cm]]) co144 (ar1 (Z rfl)) (l1Neg_ok h323 ) ?_)
           rintro _ w329 ⟨nr324, A325, n326, c327, rfl, e330, h328⟩
           have E331 := qe E321 e330
           have lh328 := ql h328
           refine qr ?_
           have H332 := (e330.blk (e320.blk (e309.blk H299)))
           refine aw_one 6 rfl (by kernel_rfl) .none (oe_store (v := .agg #[.bool nr303, .slice A304 n305 c306]) (vs := [.bool nr303, .slice A304 n305 c306]) (l := [.bool nr303, .slice A304 n305 c306]) (Z rfl) (Z rfl) sz88 rfl rfl rfl H332 rfl ?_)
           intro w333 s334 H335
           have E336 := below_st E331 N4 s334
           refine qr ?_
           have H337 := (s334.blk (e330.blk (e320.blk H311)) (by omega))
           refine aw_one 7 rfl (by kernel_rfl) .none (oe_store (v := .agg #[.bool nr314, .slice A315 n316 c317]) (vs := [.bool nr314, .slice A315 n316 c317]) (l := [.bool nr314, .slice A315 n316 c317]) (Z rfl) (Z rfl) sz88 rfl rfl rfl H337 rfl ?_)
           intro w338 s339 H340
           have E341 := below_st E336 N9 s339
           refine qr ?_
           have H342 := (s339.blk (s334.blk (e330.blk H322) (by omega)) (by omega))
           refine aw_one 8 rfl (by kernel_rfl) .none (oe_store (v := .agg #[.bool nr324, .slice A325 n326 c327]) (vs := [.bool nr324, .slice A325 n326 c327]) (l := [.bool nr324, .slice A325 n326 c327]) (Z rfl) (Z rfl) sz88 rfl rfl rfl H342 rfl ?_)
           intro w343 s344 H345
           have E346 := below_st E341 N14 s344
           refine qr <| aw_done (by kernel_rfl) ?_
           have H347 := (s344.blk (s339.blk H335 (by omega)) (by omega))
           have H348 := (s344.blk H340 (by omega))
           have H349 := (s344.blk (s339.blk (s334.blk (e330.blk (e320.blk (e309.blk (d297.ext.blk n18.blk)))) (by omega)) (by omega)) (by omega))
           have h350 := (((((h307.ext e320).ext e330).st s334 H332 (by decide)).st s339 H337 (by decide)).st s344 H342 (by decide))
           have h351 := ((((h318.ext e330).st s334 H332 (by decide)).st s339 H337 (by decide)).st s344 H342 (by decide))
           have h352 := (((h328.st s334 H332 (by decide)).st s339 H337 (by decide)).st s344 H342 (by decide))
           exact hj76 _ _ ⟨nr303, A304, n305, c306, nr314, A315, n316, c317, nr324, A325, n326, c327, rfl, rfl, rfl, rfl, E346, H347, H348, H345, H349, h350, h351, h352⟩
         refine DV.oe (dv_loads (l := [.bool nm, .slice Am lm cm]) agt88 sz88 (Z rfl) H312 rfl) <| qr ?_
         have h353 := ((((((hb.ext n3.ext).ext n8.ext).ext n13.ext).ext n18.ext).ext d297.ext).ext e309)
         refine aw_one 3 rfl (by kernel_rfl) .none (oe_callf (vs := [.agg #[.bool nb, .slice Ab lb cb]]) co144 (ar1 (Z rfl)) (l1Neg_ok h353 ) ?_)
         rintro _ w359 ⟨nr354, A355, n356, c357, rfl, e360, h358⟩
         have E361 := qe E310 e360
         have lh358 := ql h358
         refine qr ?_
         have h362 := (((((((hm.ext n3.ext).ext n8.ext).ext n13.ext).ext n18.ext).ext d297.ext).ext e309).ext e360)
         refine aw_one 5 rfl (by kernel_rfl) .none (oe_callf (vs := [.agg #[.bool nm, .slice Am lm cm]]) co144 (ar1 (Z rfl)) (l1Neg_ok h362 ) ?_)
         rintro _ w368 ⟨nr363, A364, n365, c366, rfl, e369, h367⟩
         have E370 := qe E361 e369
         have lh367 := ql h367
         refine qr ?_
         have H371 := (e369.blk (e360.blk (e309.blk H299)))
         refine aw_one 6 rfl (by kernel_rfl) .none (oe_store (v := .agg #[.bool nr303, .slice A304 n305 c306]) (vs := [.bool nr303, .slice A304 n305 c306]) (l := [.bool nr303, .slice A304 n305 c306]) (Z rfl) (Z rfl) sz88 rfl rfl rfl H371 rfl ?_)
         intro w372 s373 H374
         have E375 := below_st E370 N4 s373
         refine qr ?_
         have H376 := (s373.blk (e369.blk (e360.blk H311)) (by omega))
         refine aw_one 7 rfl (by kernel_rfl) .none (oe_store (v := .agg #[.bool nr354, .slice A355 n356 c357]) (vs := [.bool nr354, .slice A355 n356 c357]) (l := [.bool nr354, .slice A355 n356 c357]) (Z rfl) (Z rfl) sz88 rfl rfl rfl H376 rfl ?_)
         intro w377 s378 H379
         have E380 := below_st E375 N9 s378
         refine qr ?_
         have H381 := (s378.blk (s373.blk (e369.blk (e360.blk H312)) (by omega)) (by omega))
         refine aw_one 8 rfl (by kernel_rfl) .none (oe_store (v := .agg #[.bool nr363, .slice A364 n365 c366]) (vs := [.bool nr363, .slice A364 n365 c366]) (l := [.bool nr363, .slice A364 n365 c366]) (Z rfl) (Z rfl) sz88 rfl rfl rfl H381 rfl ?_)
         intro w382 s383 H384
         have E385 := below_st E380 N14 s383
         refine qr <| aw_done (by kernel_rfl) ?_
         have H386 := (s383.blk (s378.blk H374 (by omega)) (by omega))
         have H387 := (s383.blk H379 (by omega))
         have H388 := (s383.blk (s378.blk (s373.blk (e369.blk (e360.blk (e309.blk (d297.ext.blk n18.blk)))) (by omega)) (by omega)) (by omega))
         have h389 := (((((h307.ext e360).ext e369).st s373 H371 (by decide)).st s378 H376 (by decide)).st s383 H381 (by decide))
         have h390 := ((((h358.ext e369).st s373 H371 (by decide)).st s378 H376 (by decide)).st s383 H381 (by decide))
         have h391 := (((h367.st s373 H371 (by decide)).st s378 H376 (by decide)).st s383 H381 (by decide))
         exact hj76 _ _ ⟨nr303, A304, n305, c306, nr354, A355, n356, c357, nr363, A364, n365, c366, rfl, rfl, rfl, rfl, E385, H386, H387, H384, H388, h389, h390, h391⟩
       refine DV.oe (dv_loads (l := [.bool nm, .slice Am lm cm]) agt88 sz88 (Z rfl) H312 rfl) <| qr <| aw_one 2 rfl (by kernel_rfl) .none (DV.oe (dv_loads (l := [.bool nb, .slice Ab lb cb]) agt88 sz88 (Z rfl) H311 rfl) ?_)
       refine qr ?_
       have h392 := ((((((hb.ext n3.ext).ext n8.ext).ext n13.ext).ext n18.ext).ext d297.ext).ext e309)
       refine aw_one 3 rfl (by kernel_rfl) .none (oe_callf (vs := [.agg #[.bool nb, .slice Ab lb cb]]) co144 (ar1 (Z rfl)) (l1Neg_ok h392 ) ?_)
       rintro _ w398 ⟨nr393, A394, n395, c396, rfl, e399, h397⟩
       have E400 := qe E310 e399
       have lh397 := ql h397
       refine qr ?_
       have h401 := (((((((hm.ext n3.ext).ext n8.ext).ext n13.ext).ext n18.ext).ext d297.ext).ext e309).ext e399)
       refine aw_one 5 rfl (by kernel_rfl) .none (oe_callf (vs := [.agg #[.bool nm, .slice Am lm cm]]) co144 (ar1 (Z rfl)) (l1Neg_ok h401 ) ?_)
       rintro _ w407 ⟨nr402, A403, n404, c405, rfl, e408, h406⟩
       have E409 := qe E400 e408
       have lh406 := ql h406
       refine qr ?_
       have H410 := (e408.blk (e399.blk (e309.blk H299)))
       refine aw_one 6 rfl (by kernel_rfl) .none (oe_store (v := .agg #[.bool nr303, .slice A304 n305 c306]) (vs := [.bool nr303, .slice A304 n305 c306]) (l := [.bool nr303, .slice A304 n305 c306]) (Z rfl) (Z rfl) sz88 rfl rfl rfl H410 rfl ?_)
       intro w411 s412 H413
       have E414 := below_st E409 N4 s412
       refine qr ?_
       have H415 := (s412.blk (e408.blk (e399.blk H311)) (by omega))
       refine aw_one 7 rfl (by kernel_rfl) .none (oe_store (v := .agg #[.bool nr393, .slice A394 n395 c396]) (vs := [.bool nr393, .slice A394 n395 c396]) (l := [.bool nr393, .slice A394 n395 c396]) (Z rfl) (Z rfl) sz88 rfl rfl rfl H415 rfl ?_)
       intro w416 s417 H418
       have E419 := below_st E414 N9 s417
       refine qr ?_
       have H420 := (s417.blk (s412.blk (e408.blk (e399.blk H312)) (by omega)) (by omega))
       refine aw_one 8 rfl (by kernel_rfl) .none (oe_store (v := .agg #[.bool nr402, .slice A403 n404 c405]) (vs := [.bool nr402, .slice A403 n404 c405]) (l := [.bool nr402, .slice A403 n404 c405]) (Z rfl) (Z rfl) sz88 rfl rfl rfl H420 rfl ?_)
       intro w421 s422 H423
       have E424 := below_st E419 N14 s422
       refine qr <| aw_done (by kernel_rfl) ?_
       have H425 := (s422.blk (s417.blk H413 (by omega)) (by omega))
       have H426 := (s422.blk H418 (by omega))
       have H427 := (s422.blk (s417.blk (s412.blk (e408.blk (e399.blk (e309.blk (d297.ext.blk n18.blk)))) (by omega)) (by omega)) (by omega))
       have h428 := (((((h307.ext e399).ext e408).st s412 H410 (by decide)).st s417 H415 (by decide)).st s422 H420 (by decide))
       have h429 := ((((h397.ext e408).st s412 H410 (by decide)).st s417 H415 (by decide)).st s422 H420 (by decide))
       have h430 := (((h406.st s412 H410 (by decide)).st s417 H415 (by decide)).st s422 H420 (by decide))
       exact hj76 _ _ ⟨nr303, A304, n305, c306, nr393, A394, n395, c396, nr402, A403, n404, c405, rfl, rfl, rfl, rfl, E424, H425, H426, H423, H427, h428, h429, h430⟩
     · refine DV.oe (dv_loads (l := [.bool nb, .slice Ab lb cb]) agt88 sz88 (Z rfl) H300 rfl) <| qr <| aw_two 1 4 rfl rfl (by kernel_rfl) .none .none ?_ ?_
       · have h431 := (((((ha.ext n3.ext).ext n8.ext).ext n13.ext).ext n18.ext).ext d297.ext)
         refine oe_callf (vs := [.agg #[.bool na, .slice Aa la ca]]) co144 (ar1 (Z rfl)) (l1Neg_ok h431 ) ?_
         rintro _ w437 ⟨nr432, A433, n434, c435, rfl, e438, h436⟩
         have E439 := qe E298 e438
         have lh436 := ql h436
         refine qr ?_
         have H440 := (e438.blk H301)
         refine aw_two 3 4 rfl rfl (by kernel_rfl) .none .none ?_ ?_
         · have h441 := ((((((hb.ext n3.ext).ext n8.ext).ext n13.ext).ext n18.ext).ext d297.ext).ext e438)
           refine oe_callf (vs := [.agg #[.bool nb, .slice Ab lb cb]]) co144 (ar1 (Z rfl)) (l1Neg_ok h441 ) ?_
           rintro _ w447 ⟨nr442, A443, n444, c445, rfl, e448, h446⟩
           have E449 := qe E439 e448
           have lh446 := ql h446
           refine qr ?_
           have H450 := (e448.blk H440)
           refine aw_one 4 rfl (by kernel_rfl) .none (DV.oe (dv_loads (l := [.bool nm, .slice Am lm cm]) agt88 sz88 (Z rfl) H450 rfl) ?_)
           refine qr ?_
           have h451 := (((((((hm.ext n3.ext).ext n8.ext).ext n13.ext).ext n18.ext).ext d297.ext).ext e438).ext e448)
           refine aw_one 5 rfl (by kernel_rfl) .none (oe_callf (vs := [.agg #[.bool nm, .slice Am lm cm]]) co144 (ar1 (Z rfl)) (l1Neg_ok h451 ) ?_)
           rintro _ w457 ⟨nr452, A453, n454, c455, rfl, e458, h456⟩
           have E459 := qe E449 e458
           have lh456 := ql h456
           refine qr ?_
           have H460 := (e458.blk (e448.blk (e438.blk H299)))
           refine aw_one 6 rfl (by kernel_rfl) .none (oe_store (v := .agg #[.bool nr432, .slice A433 n434 c435]) (vs := [.bool nr432, .slice A433 n434 c435]) (l := [.bool nr432, .slice A433 n434 c435]) (Z rfl) (Z rfl) sz88 rfl rfl rfl H460 rfl ?_)
           intro w461 s462 H463
           have E464 := below_st E459 N4 s462
           refine qr ?_
           have H465 := (s462.blk (e458.blk (e448.blk (e438.blk H300))) (by omega))
           refine aw_one 7 rfl (by kernel_rfl) .none (oe_store (v := .agg #[.bool nr442, .slice A443 n444 c445]) (vs := [.bool nr442, .slice A443 n444 c445]) (l := [.bool nr442, .slice A443 n444 c445]) (Z rfl) (Z rfl) sz88 rfl rfl rfl H465 rfl ?_)
           intro w466 s467 H468
           have E469 := below_st E464 N9 s467
           refine qr ?_
           have H470 := (s467.blk (s462.blk (e458.blk H450) (by omega)) (by omega))
           refine aw_one 8 rfl (by kernel_rfl) .none (oe_store (v := .agg #[.bool nr452, .slice A453 n454 c455]) (vs := [.bool nr452, .slice A453 n454 c455]) (l := [.bool nr452, .slice A453 n454 c455]) (Z rfl) (Z rfl) sz88 rfl rfl rfl H470 rfl ?_)
           intro w471 s472 H473
           have E474 := below_st E469 N14 s472
           refine qr <| aw_done (by kernel_rfl) ?_
           have H475 := (s472.blk (s467.blk H463 (by omega)) (by omega))
           have H476 := (s472.blk H468 (by omega))
           have H477 := (s472.blk (s467.blk (s462.blk (e458.blk (e448.blk (e438.blk (d297.ext.blk n18.blk)))) (by omega)) (by omega)) (by omega))
           have h478 := (((((h436.ext e448).ext e458).st s462 H460 (by decide)).st s467 H465 (by decide)).st s472 H470 (by decide))
           have h479 := ((((h446.ext e458).st s462 H460 (by decide)).st s467 H465 (by decide)).st s472 H470 (by decide))
           have h480 := (((h456.st s462 H460 (by decide)).st s467 H465 (by decide)).st s472 H470 (by decide))
           exact hj76 _ _ ⟨nr432, A433, n434, c435, nr442, A443, n444, c445, nr452, A453, n454, c455, rfl, rfl, rfl, rfl, E474, H475, H476, H473, H477, h478, h479, h480⟩
         refine DV.oe (dv_loads (l := [.bool nm, .slice Am lm cm]) agt88 sz88 (Z rfl) H440 rfl) <| qr ?_
         have h481 := ((((((hb.ext n3.ext).ext n8.ext).ext n13.ext).ext n18.ext).ext d297.ext).ext e438)
         refine aw_one 3 rfl (by kernel_rfl) .none (oe_callf (vs := [.agg #[.bool nb, .slice Ab lb cb]]) co144 (ar1 (Z rfl)) (l1Neg_ok h481 ) ?_)
         rintro _ w487 ⟨nr482, A483, n484, c485, rfl, e488, h486⟩
         have E489 := qe E439 e488
         have lh486 := ql h486
         refine qr ?_
         have h490 := (((((((hm.ext n3.ext).ext n8.ext).ext n13.ext).ext n18.ext).ext d297.ext).ext e438).ext e488)
         refine aw_one 5 rfl (by kernel_rfl) .none (oe_callf (vs := [.agg #[.bool nm, .slice Am lm cm]]) co144 (ar1 (Z rfl)) (l1Neg_ok h490 ) ?_)
         rintro _ w496 ⟨nr491, A492, n493, c494, rfl, e497, h495⟩
         have E498 := qe E489 e497
         have lh495 := ql h495
         refine qr ?_
         have H499 := (e497.blk (e488.blk (e438.blk H299)))
         refine aw_one 6 rfl (by kernel_rfl) .none (oe_store (v := .agg #[.bool nr432, .slice A433 n434 c435]) (vs := [.bool nr432, .slice A433 n434 c435]) (l := [.bool nr432, .slice A433 n434 c435]) (Z rfl) (Z rfl) sz88 rfl rfl rfl H499 rfl ?_)
         intro w500 s501 H502
         have E503 := below_st E498 N4 s501
         refine qr ?_
         have H504 := (s501.blk (e497.blk (e488.blk (e438.blk H300))) (by omega))
         refine aw_one 7 rfl (by kernel_rfl) .none (oe_store (v := .agg #[.bool nr482, .slice A483 n484 c485]) (vs := [.bool nr482, .slice A483 n484 c485]) (l := [.bool nr482, .slice A483 n484 c485]) (Z rfl) (Z rfl) sz88 rfl rfl rfl H504 rfl ?_)
         intro w505 s506 H507
         have E508 := below_st E503 N9 s506
         refine qr ?_
         have H509 := (s506.blk (s501.blk (e497.blk (e488.blk H440)) (by omega)) (by omega))
         refine aw_one 8 rfl (by kernel_rfl) .none (oe_store (v := .agg #[.bool nr491, .slice A492 n493 c494]) (vs := [.bool nr491, .slice A492 n493 c494]) (l := [.bool nr491, .slice A492 n493 c494]) (Z rfl) (Z rfl) sz88 rfl rfl rfl H509 rfl ?_)
         intro w510 s511 H512
         have E513 := below_st E508 N14 s511
         refine qr <| aw_done (by kernel_rfl) ?_
         have H514 := (s511.blk (s506.blk H502 (by omega)) (by omega))
         have H515 := (s511.blk H507 (by omega))
         have H516 := (s511.blk (s506.blk (s501.blk (e497.blk (e488.blk (e438.blk (d297.ext.blk n18.blk)))) (by omega)) (by omega)) (by omega))
         have h517 := (((((h436.ext e488).ext e497).st s501 H499 (by decide)).st s506 H504 (by decide)).st s511 H509 (by decide))
         have h518 := ((((h486.ext e497).st s501 H499 (by decide)).st s506 H504 (by decide)).st s511 H509 (by decide))
         have h519 := (((h495.st s501 H499 (by decide)).st s506 H504 (by decide)).st s511 H509 (by decide))
         exact hj76 _ _ ⟨nr432, A433, n434, c435, nr482, A483, n484, c485, nr491, A492, n493, c494, rfl, rfl, rfl, rfl, E513, H514, H515, H512, H516, h517, h518, h519⟩
       refine DV.oe (dv_loads (l := [.bool nm, .slice Am lm cm]) agt88 sz88 (Z rfl) H301 rfl) <| qr ?_
       have h520 := (((((ha.ext n3.ext).ext n8.ext).ext n13.ext).ext n18.ext).ext d297.ext)
       refine aw_one 1 rfl (by kernel_rfl) .none (oe_callf (vs := [.agg #[.bool na, .slice Aa la ca]]) co144 (ar1 (Z rfl)) (l1Neg_ok h520 ) ?_)
       rintro _ w526 ⟨nr521, A522, n523, c524, rfl, e527, h525⟩
       have E528 := qe E298 e527
       have lh525 := ql h525
       refine qr ?_
       have h529 := ((((((hb.ext n3.ext).ext n8.ext).ext n13.ext).ext n18.ext).ext d297.ext).ext e527)
       refine aw_one 3 rfl (by kernel_rfl) .none (oe_callf (vs := [.agg #[.bool nb, .slice Ab lb cb]]) co144 (ar1 (Z rfl)) (l1Neg_ok h529 ) ?_)
       rintro _ w535 ⟨nr530, A531, n532, c533, rfl, e536, h534⟩
       have E537 := qe E528 e536
       have lh534 := ql h534
       refine qr ?_
       have h538 := (((((((hm.ext n3.ext).ext n8.ext).ext n13.ext).ext n18.ext).ext d297.ext).ext e527).ext e536)
       refine aw_one 5 rfl (by kernel_rfl) .none (oe_callf (vs := [.agg #[.bool nm, .slice Am lm cm]]) co144 (ar1 (Z rfl)) (l1Neg_ok h538 ) ?_)
       rintro _ w544 ⟨nr539, A540, n541, c542, rfl, e545, h543⟩
       have E546 := qe E537 e545
       have lh543 := ql h543
       refine qr ?_
       have H547 := (e545.blk (e536.blk (e527.blk H299)))
       refine aw_one 6 rfl (by kernel_rfl) .none (oe_store (v := .agg #[.bool nr521, .slice A522 n523 c524]) (vs := [.bool nr521, .slice A522 n523 c524]) (l := [.bool nr521, .slice A522 n523 c524]) (Z rfl) (Z rfl) sz88 rfl rfl rfl H547 rfl ?_)
       intro w548 s549 H550
       have E551 := below_st E546 N4 s549
       refine qr ?_
       have H552 := (s549.blk (e545.blk (e536.blk (e527.blk H300))) (by omega))
       refine aw_one 7 rfl (by kernel_rfl) .none (oe_store (v := .agg #[.bool nr530, .slice A531 n532 c533]) (vs := [.bool nr530, .slice A531 n532 c533]) (l := [.bool nr530, .slice A531 n532 c533]) (Z rfl) (Z rfl) sz88 rfl rfl rfl H552 rfl ?_)
       intro w553 s554 H555
       have E556 := below_st E551 N9 s554
       refine qr ?_
       have H557 := (s554.blk (s549.blk (e545.blk (e536.blk (e527.blk H301))) (by omega)) (by omega))
       refine aw_one 8 rfl (by kernel_rfl) .none (oe_store (v := .agg #[.bool nr539, .slice A540 n541 c542]) (vs := [.bool nr539, .slice A540 n541 c542]) (l := [.bool nr539, .slice A540 n541 c542]) (Z rfl) (Z rfl) sz88 rfl rfl rfl H557 rfl ?_)
       intro w558 s559 H560
       have E561 := below_st E556 N14 s559
       refine qr <| aw_done (by kernel_rfl) ?_
       have H562 := (s559.blk (s554.blk H550 (by omega)) (by omega))
       have H563 := (s559.blk H555 (by omega))
       have H564 := (s559.blk (s554.blk (s549.blk (e545.blk (e536.blk (e527.blk (d297.ext.blk n18.blk)))) (by omega)) (by omega)) (by omega))
       have h565 := (((((h525.ext e536).ext e545).st s549 H547 (by decide)).st s554 H552 (by decide)).st s559 H557 (by decide))
       have h566 := ((((h534.ext e545).st s549 H547 (by decide)).st s554 H552 (by decide)).st s559 H557 (by decide))
       have h567 := (((h543.st s549 H547 (by decide)).st s554 H552 (by decide)).st s559 H557 (by decide))
       exact hj76 _ _ ⟨nr521, A522, n523, c524, nr530, A531, n532, c533, nr539, A540, n541, c542, rfl, rfl, rfl, rfl, E561, H562, H563, H560, H564, h565, h566, h567⟩
     refine DV.oe (dv_loads (l := [.bool nm, .slice Am lm cm]) agt88 sz88 (Z rfl) H301 rfl) <| qr <| aw_two 1 2 rfl rfl (by kernel_rfl) .none .none ?_ ?_
     · have h568 := (((((ha.ext n3.ext).ext n8.ext).ext n13.ext).ext n18.ext).ext d297.ext)
       refine oe_callf (vs := [.agg #[.bool na, .slice Aa la ca]]) co144 (ar1 (Z rfl)) (l1Neg_ok h568 ) ?_
       rintro _ w574 ⟨nr569, A570, n571, c572, rfl, e575, h573⟩
       have E576 := qe E298 e575
       have lh573 := ql h573
       refine qr ?_
       have H577 := (e575.blk H300)
       refine aw_one 2 rfl (by kernel_rfl) .none (DV.oe (dv_loads (l := [.bool nb, .slice Ab lb cb]) agt88 sz88 (Z rfl) H577 rfl) ?_)
       refine qr ?_
       have h578 := ((((((hb.ext n3.ext).ext n8.ext).ext n13.ext).ext n18.ext).ext d297.ext).ext e575)
       refine aw_one 3 rfl (by kernel_rfl) .none (oe_callf (vs := [.agg #[.bool nb, .slice Ab lb cb]]) co144 (ar1 (Z rfl)) (l1Neg_ok h578 ) ?_)
       rintro _ w584 ⟨nr579, A580, n581, c582, rfl, e585, h583⟩
       have E586 := qe E576 e585
       have lh583 := ql h583
       refine qr ?_
       have h587 := (((((((hm.ext n3.ext).ext n8.ext).ext n13.ext).ext n18.ext).ext d297.ext).ext e575).ext e585)
       refine aw_one 5 rfl (by kernel_rfl) .none (oe_callf (vs := [.agg #[.bool nm, .slice Am lm cm]]) co144 (ar1 (Z rfl)) (l1Neg_ok h587 ) ?_)
       rintro _ w593 ⟨nr588, A589, n590, c591, rfl, e594, h592⟩
       have E595 := qe E586 e594
       have lh592 := ql h592
       refine qr ?_
       have H596 := (e594.blk (e585.blk (e575.blk H299)))
       refine aw_one 6 rfl (by kernel_rfl) .none (oe_store (v := .agg #[.bool nr569, .slice A570 n571 c572]) (vs := [.bool nr569, .slice A570 n571 c572]) (l := [.bool nr569, .slice A570 n571 c572]) (Z rfl) (Z rfl) sz88 rfl rfl rfl H596 rfl ?_)
       intro w597 s598 H599
       have E600 := below_st E595 N4 s598
       refine qr ?_
       have H601 := (s598.blk (e594.blk (e585.blk H577)) (by omega))
       refine aw_one 7 rfl (by kernel_rfl) .none (oe_store (v := .agg #[.bool nr579, .slice A580 n581 c582]) (vs := [.bool nr579, .slice A580 n581 c582]) (l := [.bool nr579, .slice A580 n581 c582]) (Z rfl) (Z rfl) sz88 rfl rfl rfl H601 rfl ?_)
       intro w602 s603 H604
       have E605 := below_st E600 N9 s603
       refine qr ?_
       have H606 := (s603.blk (s598.blk (e594.blk (e585.blk (e575.blk H301))) (by omega)) (by omega))
       refine aw_one 8 rfl (by kernel_rfl) .none (oe_store (v := .agg #[.bool nr588, .slice A589 n590 c591]) (vs := [.bool nr588, .slice A589 n590 c591]) (l := [.bool nr588, .slice A589 n590 c591]) (Z rfl) (Z rfl) sz88 rfl rfl rfl H606 rfl ?_)
       intro w607 s608 H609
       have E610 := below_st E605 N14 s608
       refine qr <| aw_done (by kernel_rfl) ?_
       have H611 := (s608.blk (s603.blk H599 (by omega)) (by omega))
       have H612 := (s608.blk H604 (by omega))
       have H613 := (s608.blk (s603.blk (s598.blk (e594.blk (e585.blk (e575.blk (d297.ext.blk n18.blk)))) (by omega)) (by omega)) (by omega))
       have h614 := (((((h573.ext e585).ext e594).st s598 H596 (by decide)).st s603 H601 (by decide)).st s608 H606 (by decide))
       have h615 := ((((h583.ext e594).st s598 H596 (by decide)).st s603 H601 (by decide)).st s608 H606 (by decide))
       have h616 := (((h592.st s598 H596 (by decide)).st s603 H601 (by decide)).st s608 H606 (by decide))
       exact hj76 _ _ ⟨nr569, A570, n571, c572, nr579, A580, n581, c582, nr588, A589, n590, c591, rfl, rfl, rfl, rfl, E610, H611, H612, H609, H613, h614, h615, h616⟩
     refine DV.oe (dv_loads (l := [.bool nb, .slice Ab lb cb]) agt88 sz88 (Z rfl) H300 rfl) <| qr ?_
     have h617 := (((((ha.ext n3.ext).ext n8.ext).ext n13.ext).ext n18.ext).ext d297.ext)
     refine aw_one 1 rfl (by kernel_rfl) .none (oe_callf (vs := [.agg #[.bool na, .slice Aa la ca]]) co144 (ar1 (Z rfl)) (l1Neg_ok h617 ) ?_)
     rintro _ w623 ⟨nr618, A619, n620, c621, rfl, e624, h622⟩
     have E625 := qe E298 e624
     have lh622 := ql h622
     refine qr ?_
     have h626 := ((((((hb.ext n3.ext).ext n8.ext).ext n13.ext).ext n18.ext).ext d297.ext).ext e624)
     refine aw_one 3 rfl (by kernel_rfl) .none (oe_callf (vs := [.agg #[.bool nb, .slice Ab lb cb]]) co144 (ar1 (Z rfl)) (l1Neg_ok h626 ) ?_)
     rintro _ w632 ⟨nr627, A628, n629, c630, rfl, e633, h631⟩
     have E634 := qe E625 e633
     have lh631 := ql h631
     refine qr ?_
     have h635 := (((((((hm.ext n3.ext).ext n8.ext).ext n13.ext).ext n18.ext).ext d297.ext).ext e624).ext e633)
     refine aw_one 5 rfl (by kernel_rfl) .none (oe_callf (vs := [.agg #[.bool nm, .slice Am lm cm]]) co144 (ar1 (Z rfl)) (l1Neg_ok h635 ) ?_)
     rintro _ w641 ⟨nr636, A637, n638, c639, rfl, e642, h640⟩
     have E643 := qe E634 e642
     have lh640 := ql h640
     refine qr ?_
     have H644 := (e642.blk (e633.blk (e624.blk H299)))
     refine aw_one 6 rfl (by kernel_rfl) .none (oe_store (v := .agg #[.bool nr618, .slice A619 n620 c621]) (vs := [.bool nr618, .slice A619 n620 c621]) (l := [.bool nr618, .slice A619 n620 c621]) (Z rfl) (Z rfl) sz88 rfl rfl rfl H644 rfl ?_)
     intro w645 s646 H647
     have E648 := below_st E643 N4 s646
     refine qr ?_
     have H649 := (s646.blk (e642.blk (e633.blk (e624.blk H300))) (by omega))
     refine aw_one 7 rfl (by kernel_rfl) .none (oe_store (v := .agg #[.bool nr627, .slice A628 n629 c630]) (vs := [.bool nr627, .slice A628 n629 c630]) (l := [.bool nr627, .slice A628 n629 c630]) (Z rfl) (Z rfl) sz88 rfl rfl rfl H649 rfl ?_)
     intro w650 s651 H652
     have E653 := below_st E648 N9 s651
     refine qr ?_
     have H654 := (s651.blk (s646.blk (e642.blk (e633.blk (e624.blk H301))) (by omega)) (by omega))
     refine aw_one 8 rfl (by kernel_rfl) .none (oe_store (v := .agg #[.bool nr636, .slice A637 n638 c639]) (vs := [.bool nr636, .slice A637 n638 c639]) (l := [.bool nr636, .slice A637 n638 c639]) (Z rfl) (Z rfl) sz88 rfl rfl rfl H654 rfl ?_)
     intro w655 s656 H657
     have E658 := below_st E653 N14 s656
     refine qr <| aw_done (by kernel_rfl) ?_
     have H659 := (s656.blk (s651.blk H647 (by omega)) (by omega))
     have H660 := (s656.blk H652 (by omega))
     have H661 := (s656.blk (s651.blk (s646.blk (e642.blk (e633.blk (e624.blk (d297.ext.blk n18.blk)))) (by omega)) (by omega)) (by omega))
     have h662 := (((((h622.ext e633).ext e642).st s646 H644 (by decide)).st s651 H649 (by decide)).st s656 H654 (by decide))
     have h663 := ((((h631.ext e642).st s646 H644 (by decide)).st s651 H649 (by decide)).st s656 H654 (by decide))
     have h664 := (((h640.st s646 H644 (by decide)).st s651 H649 (by decide)).st s656 H654 (by decide))
     exact hj76 _ _ ⟨nr618, A619, n620, c621, nr627, A628, n629, c630, nr636, A637, n638, c639, rfl, rfl, rfl, rfl, E658, H659, H660, H657, H661, h662, h663, h664⟩
   · refine DV.oe (dv_loads (l := [.bool nb, .slice Ab lb cb]) agt88 sz88 (Z rfl) H300 rfl) <| qr <| aw_two 0 4 rfl rfl (by kernel_rfl) .none .none ?_ ?_
     · refine DV.oe (dv_loads (l := [.bool na, .slice Aa la ca]) agt88 sz88 (Z rfl) H299 rfl) <| qr <| aw_two 1 4 rfl rfl (by kernel_rfl) .none .none ?_ ?_
       · have h665 := (((((ha.ext n3.ext).ext n8.ext).ext n13.ext).ext n18.ext).ext d297.ext)
         refine oe_callf (vs := [.agg #[.bool na, .slice Aa la ca]]) co144 (ar1 (Z rfl)) (l1Neg_ok h665 ) ?_
         rintro _ w671 ⟨nr666, A667, n668, c669, rfl, e672, h670⟩
         have E673 := qe E298 e672
         have lh670 := ql h670
         refine qr ?_
         have H674 := (e672.blk H301)
         refine aw_two 3 4 rfl rfl (by kernel_rfl) .none .none ?_ ?_
         · have h675 := ((((((hb.ext n3.ext).ext n8.ext).ext n13.ext).ext n18.ext).ext d297.ext).ext e672)
           refine oe_callf (vs := [.agg #[.bool nb, .slice Ab lb cb]]) co144 (ar1 (Z rfl)) (l1Neg_ok h675 ) ?_
           rintro _ w681 ⟨nr676, A677, n678, c679, rfl, e682, h680⟩
           have E683 := qe E673 e682
           have lh680 := ql h680
           refine qr ?_
           have H684 := (e682.blk H674)
           refine aw_one 4 rfl (by kernel_rfl) .none (DV.oe (dv_loads (l := [.bool nm, .slice Am lm cm]) agt88 sz88 (Z rfl) H684 rfl) ?_)
           refine qr ?_
           have h685 := (((((((hm.ext n3.ext).ext n8.ext).ext n13.ext).ext n18.ext).ext d297.ext).ext e672).ext e682)
           refine aw_one 5 rfl (by kernel_rfl) .none (oe_callf (vs := [.agg #[.bool nm, .slice Am lm cm]]) co144 (ar1 (Z rfl)) (l1Neg_ok h685 ) ?_)
           rintro _ w691 ⟨nr686, A687, n688, c689, rfl, e692, h690⟩
           have E693 := qe E683 e692
           have lh690 := ql h690
           refine qr ?_
           have H694 := (e692.blk (e682.blk (e672.blk H299)))
           refine aw_one 6 rfl (by kernel_rfl) .none (oe_store (v := .agg #[.bool nr666, .slice A667 n668 c669]) (vs := [.bool nr666, .slice A667 n668 c669]) (l := [.bool nr666, .slice A667 n668 c669]) (Z rfl) (Z rfl) sz88 rfl rfl rfl H694 rfl ?_)
           intro w695 s696 H697
           have E698 := below_st E693 N4 s696
           refine qr ?_
           have H699 := (s696.blk (e692.blk (e682.blk (e672.blk H300))) (by omega))
           refine aw_one 7 rfl (by kernel_rfl) .none (oe_store (v := .agg #[.bool nr676, .slice A677 n678 c679]) (vs := [.bool nr676, .slice A677 n678 c679]) (l := [.bool nr676, .slice A677 n678 c679]) (Z rfl) (Z rfl) sz88 rfl rfl rfl H699 rfl ?_)
           intro w700 s701 H702
           have E703 := below_st E698 N9 s701
           refine qr ?_
           have H704 := (s701.blk (s696.blk (e692.blk H684) (by omega)) (by omega))
           refine aw_one 8 rfl (by kernel_rfl) .none (oe_store (v := .agg #[.bool nr686, .slice A687 n688 c689]) (vs := [.bool nr686, .slice A687 n688 c689]) (l := [.bool nr686, .slice A687 n688 c689]) (Z rfl) (Z rfl) sz88 rfl rfl rfl H704 rfl ?_)
           intro w705 s706 H707
           have E708 := below_st E703 N14 s706
           refine qr <| aw_done (by kernel_rfl) ?_
           have H709 := (s706.blk (s701.blk H697 (by omega)) (by omega))
           have H710 := (s706.blk H702 (by omega))
           have H711 := (s706.blk (s701.blk (s696.blk (e692.blk (e682.blk (e672.blk (d297.ext.blk n18.blk)))) (by omega)) (by omega)) (by omega))
           have h712 := (((((h670.ext e682).ext e692).st s696 H694 (by decide)).st s701 H699 (by decide)).st s706 H704 (by decide))
           have h713 := ((((h680.ext e692).st s696 H694 (by decide)).st s701 H699 (by decide)).st s706 H704 (by decide))
           have h714 := (((h690.st s696 H694 (by decide)).st s701 H699 (by decide)).st s706 H704 (by decide))
           exact hj76 _ _ ⟨nr666, A667, n668, c669, nr676, A677, n678, c679, nr686, A687, n688, c689, rfl, rfl, rfl, rfl, E708, H709, H710, H707, H711, h712, h713, h714⟩
         refine DV.oe (dv_loads (l := [.bool nm, .slice Am lm cm]) agt88 sz88 (Z rfl) H674 rfl) <| qr ?_
         have h715 := ((((((hb.ext n3.ext).ext n8.ext).ext n13.ext).ext n18.ext).ext d297.ext).ext e672)
         refine aw_one 3 rfl (by kernel_rfl) .none (oe_callf (vs := [.agg #[.bool nb, .slice Ab lb cb]]) co144 (ar1 (Z rfl)) (l1Neg_ok h715 ) ?_)
         rintro _ w721 ⟨nr716, A717, n718, c719, rfl, e722, h720⟩
         have E723 := qe E673 e722
         have lh720 := ql h720
         refine qr ?_
         have h724 := (((((((hm.ext n3.ext).ext n8.ext).ext n13.ext).ext n18.ext).ext d297.ext).ext e672).ext e722)
         refine aw_one 5 rfl (by kernel_rfl) .none (oe_callf (vs := [.agg #[.bool nm, .slice Am lm cm]]) co144 (ar1 (Z rfl)) (l1Neg_ok h724 ) ?_)
         rintro _ w730 ⟨nr725, A726, n727, c728, rfl, e731, h729⟩
         have E732 := qe E723 e731
         have lh729 := ql h729
         refine qr ?_
         have H733 := (e731.blk (e722.blk (e672.blk H299)))
         refine aw_one 6 rfl (by kernel_rfl) .none (oe_store (v := .agg #[.bool nr666, .slice A667 n668 c669]) (vs := [.bool nr666, .slice A667 n668 c669]) (l := [.bool nr666, .slice A667 n668 c669]) (Z rfl) (Z rfl) sz88 rfl rfl rfl H733 rfl ?_)
         intro w734 s735 H736
         have E737 := below_st E732 N4 s735
         refine qr ?_
         have H738 := (s735.blk (e731.blk (e722.blk (e672.blk H300))) (by omega))
         refine aw_one 7 rfl (by kernel_rfl) .none (oe_store (v := .agg #[.bool nr716, .slice A717 n718 c719]) (vs := [.bool nr716, .slice A717 n718 c719]) (l := [.bool nr716, .slice A717 n718 c719]) (Z rfl) (Z rfl) sz88 rfl rfl rfl H738 rfl ?_)
         intro w739 s740 H741
         have E742 := below_st E737 N9 s740
         refine qr ?_
         have H743 := (s740.blk (s735.blk (e731.blk (e722.blk H674)) (by omega)) (by omega))
         refine aw_one 8 rfl (by kernel_rfl) .none (oe_store (v := .agg #[.bool nr725, .slice A726 n727 c728]) (vs := [.bool nr725, .slice A726 n727 c728]) (l := [.bool nr725, .slice A726 n727 c728]) (Z rfl) (Z rfl) sz88 rfl rfl rfl H743 rfl ?_)
         intro w744 s745 H746
         have E747 := below_st E742 N14 s745
         refine qr <| aw_done (by kernel_rfl) ?_
         have H748 := (s745.blk (s740.blk H736 (by omega)) (by omega))
         have H749 := (s745.blk H741 (by omega))
         have H750 := (s745.blk (s740.blk (s735.blk (e731.blk (e722.blk (e672.blk (d297.ext.blk n18.blk)))) (by omega)) (by omega)) (by omega))
         have h751 := (((((h670.ext e722).ext e731).st s735 H733 (by decide)).st s740 H738 (by decide)).st s745 H743 (by decide))
         have h752 := ((((h720.ext e731).st s735 H733 (by decide)).st s740 H738 (by decide)).st s745 H743 (by decide))
         have h753 := (((h729.st s735 H733 (by decide)).st s740 H738 (by decide)).st s745 H743 (by decide))
         exact hj76 _ _ ⟨nr666, A667, n668, c669, nr716, A717, n718, c719, nr725, A726, n727, c728, rfl, rfl, rfl, rfl, E747, H748, H749, H746, H750, h751, h752, h753⟩
       refine DV.oe (dv_loads (l := [.bool nm, .slice Am lm cm]) agt88 sz88 (Z rfl) H301 rfl) <| qr ?_
       have h754 := (((((ha.ext n3.ext).ext n8.ext).ext n13.ext).ext n18.ext).ext d297.ext)
       refine aw_one 1 rfl (by kernel_rfl) .none (oe_callf (vs := [.agg #[.bool na, .slice Aa la ca]]) co144 (ar1 (Z rfl)) (l1Neg_ok h754 ) ?_)
       rintro _ w760 ⟨nr755, A756, n757, c758, rfl, e761, h759⟩
       have E762 := qe E298 e761
       have lh759 := ql h759
       refine qr ?_
       have h763 := ((((((hb.ext n3.ext).ext n8.ext).ext n13.ext).ext n18.ext).ext d297.ext).ext e761)
       refine aw_one 3 rfl (by kernel_rfl) .none (oe_callf (vs := [.agg #[.bool nb, .slice Ab lb cb]]) co144 (ar1 (Z rfl)) (l1Neg_ok h763 ) ?_)
       rintro _ w769 ⟨nr764, A765, n766, c767, rfl, e770, h768⟩
       have E771 := qe E762 e770
       have lh768 := ql h768
       refine qr ?_
       have h772 := (((((((hm.ext n3.ext).ext n8.ext).ext n13.ext).ext n18.ext).ext d297.ext).ext e761).ext e770)
       refine aw_one 5 rfl (by kernel_rfl) .none (oe_callf (vs := [.agg #[.bool nm, .slice Am lm cm]]) co144 (ar1 (Z rfl)) (l1Neg_ok h772 ) ?_)
       rintro _ w778 ⟨nr773, A774, n775, c776, rfl, e779, h777⟩
       have E780 := qe E771 e779
       have lh777 := ql h777
       refine qr ?_
       have H781 := (e779.blk (e770.blk (e761.blk H299)))
       refine aw_one 6 rfl (by kernel_rfl) .none (oe_store (v := .agg #[.bool nr755, .slice A756 n757 c758]) (vs := [.bool nr755, .slice A756 n757 c758]) (l := [.bool nr755, .slice A756 n757 c758]) (Z rfl) (Z rfl) sz88 rfl rfl rfl H781 rfl ?_)
       intro w782 s783 H784
       have E785 := below_st E780 N4 s783
       refine qr ?_
       have H786 := (s783.blk (e779.blk (e770.blk (e761.blk H300))) (by omega))
       refine aw_one 7 rfl (by kernel_rfl) .none (oe_store (v := .agg #[.bool nr764, .slice A765 n766 c767]) (vs := [.bool nr764, .slice A765 n766 c767]) (l := [.bool nr764, .slice A765 n766 c767]) (Z rfl) (Z rfl) sz88 rfl rfl rfl H786 rfl ?_)
       intro w787 s788 H789
       have E790 := below_st E785 N9 s788
       refine qr ?_
       have H791 := (s788.blk (s783.blk (e779.blk (e770.blk (e761.blk H301))) (by omega)) (by omega))
       refine aw_one 8 rfl (by kernel_rfl) .none (oe_store (v := .agg #[.bool nr773, .slice A774 n775 c776]) (vs := [.bool nr773, .slice A774 n775 c776]) (l := [.bool nr773, .slice A774 n775 c776]) (Z rfl) (Z rfl) sz88 rfl rfl rfl H791 rfl ?_)
       intro w792 s793 H794
       have E795 := below_st E790 N14 s793
       refine qr <| aw_done (by kernel_rfl) ?_
       have H796 := (s793.blk (s788.blk H784 (by omega)) (by omega))
       have H797 := (s793.blk H789 (by omega))
       have H798 := (s793.blk (s788.blk (s783.blk (e779.blk (e770.blk (e761.blk (d297.ext.blk n18.blk)))) (by omega)) (by omega)) (by omega))
       have h799 := (((((h759.ext e770).ext e779).st s783 H781 (by decide)).st s788 H786 (by decide)).st s793 H791 (by decide))
       have h800 := ((((h768.ext e779).st s783 H781 (by decide)).st s788 H786 (by decide)).st s793 H791 (by decide))
       have h801 := (((h777.st s783 H781 (by decide)).st s788 H786 (by decide)).st s793 H791 (by decide))
       exact hj76 _ _ ⟨nr755, A756, n757, c758, nr764, A765, n766, c767, nr773, A774, n775, c776, rfl, rfl, rfl, rfl, E795, H796, H797, H794, H798, h799, h800, h801⟩
     refine DV.oe (dv_loads (l := [.bool nm, .slice Am lm cm]) agt88 sz88 (Z rfl) H301 rfl) <| qr <| aw_one 0 rfl (by kernel_rfl) .none (DV.oe (dv_loads (l := [.bool na, .slice Aa la ca]) agt88 sz88 (Z rfl) H299 rfl) ?_)
     refine qr ?_
     have h802 := (((((ha.ext n3.ext).ext n8.ext).ext n13.ext).ext n18.ext).ext d297.ext)
     refine aw_one 1 rfl (by kernel_rfl) .none (oe_callf (vs := [.agg #[.bool na, .slice Aa la ca]]) co144 (ar1 (Z rfl)) (l1Neg_ok h802 ) ?_)
     rintro _ w808 ⟨nr803, A804, n805, c806, rfl, e809, h807⟩
     have E810 := qe E298 e809
     have lh807 := ql h807
     refine qr ?_
     have h811 := ((((((hb.ext n3.ext).ext n8.ext).ext n13.ext).ext n18.ext).ext d297.ext).ext e809)
     refine aw_one 3 rfl (by kernel_rfl) .none (oe_callf (vs := [.agg #[.bool nb, .slice Ab lb cb]]) co144 (ar1 (Z rfl)) (l1Neg_ok h811 ) ?_)
     rintro _ w817 ⟨nr812, A813, n814, c815, rfl, e818, h816⟩
     have E819 := qe E810 e818
     have lh816 := ql h816
     refine qr ?_
     have h820 := (((((((hm.ext n3.ext).ext n8.ext).ext n13.ext).ext n18.ext).ext d297.ext).ext e809).ext e818)
     refine aw_one 5 rfl (by kernel_rfl) .none (oe_callf (vs := [.agg #[.bool nm, .slice Am lm cm]]) co144 (ar1 (Z rfl)) (l1Neg_ok h820 ) ?_)
     rintro _ w826 ⟨nr821, A822, n823, c824, rfl, e827, h825⟩
     have E828 := qe E819 e827
     have lh825 := ql h825
     refine qr ?_
     have H829 := (e827.blk (e818.blk (e809.blk H299)))
     refine aw_one 6 rfl (by kernel_rfl) .none (oe_store (v := .agg #[.bool nr803, .slice A804 n805 c806]) (vs := [.bool nr803, .slice A804 n805 c806]) (l := [.bool nr803, .slice A804 n805 c806]) (Z rfl) (Z rfl) sz88 rfl rfl rfl H829 rfl ?_)
     intro w830 s831 H832
     have E833 := below_st E828 N4 s831
     refine qr ?_
     have H834 := (s831.blk (e827.blk (e818.blk (e809.blk H300))) (by omega))
     refine aw_one 7 rfl (by kernel_rfl) .none (oe_store (v := .agg #[.bool nr812, .slice A813 n814 c815]) (vs := [.bool nr812, .slice A813 n814 c815]) (l := [.bool nr812, .slice A813 n814 c815]) (Z rfl) (Z rfl) sz88 rfl rfl rfl H834 rfl ?_)
     intro w835 s836 H837
     have E838 := below_st E833 N9 s836
     refine qr ?_
     have H839 := (s836.blk (s831.blk (e827.blk (e818.blk (e809.blk H301))) (by omega)) (by omega))
     refine aw_one 8 rfl (by kernel_rfl) .none (oe_store (v := .agg #[.bool nr821, .slice A822 n823 c824]) (vs := [.bool nr821, .slice A822 n823 c824]) (l := [.bool nr821, .slice A822 n823 c824]) (Z rfl) (Z rfl) sz88 rfl rfl rfl H839 rfl ?_)
     intro w840 s841 H842
     have E843 := below_st E838 N14 s841
     refine qr <| aw_done (by kernel_rfl) ?_
     have H844 := (s841.blk (s836.blk H832 (by omega)) (by omega))
     have H845 := (s841.blk H837 (by omega))
     have H846 := (s841.blk (s836.blk (s831.blk (e827.blk (e818.blk (e809.blk (d297.ext.blk n18.blk)))) (by omega)) (by omega)) (by omega))
     have h847 := (((((h807.ext e818).ext e827).st s831 H829 (by decide)).st s836 H834 (by decide)).st s841 H839 (by decide))
     have h848 := ((((h816.ext e827).st s831 H829 (by decide)).st s836 H834 (by decide)).st s841 H839 (by decide))
     have h849 := (((h825.st s831 H829 (by decide)).st s836 H834 (by decide)).st s841 H839 (by decide))
     exact hj76 _ _ ⟨nr803, A804, n805, c806, nr812, A813, n814, c815, nr821, A822, n823, c824, rfl, rfl, rfl, rfl, E843, H844, H845, H842, H846, h847, h848, h849⟩
   refine DV.oe (dv_loads (l := [.bool nm, .slice Am lm cm]) agt88 sz88 (Z rfl) H301 rfl) <| qr <| aw_two 0 2 rfl rfl (by kernel_rfl) .none .none ?_ ?_
   · refine DV.oe (dv_loads (l := [.bool na, .slice Aa la ca]) agt88 sz88 (Z rfl) H299 rfl) <| qr <| aw_two 1 2 rfl rfl (by kernel_rfl) .none .none ?_ ?_
     · have h850 := (((((ha.ext n3.ext).ext n8.ext).ext n13.ext).ext n18.ext).ext d297.ext)
       refine oe_callf (vs := [.agg #[.bool na, .slice Aa la ca]]) co144 (ar1 (Z rfl)) (l1Neg_ok h850 ) ?_
       rintro _ w856 ⟨nr851, A852, n853, c854, rfl, e857, h855⟩
       have E858 := qe E298 e857
       have lh855 := ql h855
       refine qr ?_
       have H859 := (e857.blk H300)
       refine aw_one 2 rfl (by kernel_rfl) .none (DV.oe (dv_loads (l := [.bool nb, .slice Ab lb cb]) agt88 sz88 (Z rfl) H859 rfl) ?_)
       refine qr ?_
       have h860 := ((((((hb.ext n3.ext).ext n8.ext).ext n13.ext).ext n18.ext).ext d297.ext).ext e857)
       refine aw_one 3 rfl (by kernel_rfl) .none (oe_callf (vs := [.agg #[.bool nb, .slice Ab lb cb]]) co144 (ar1 (Z rfl)) (l1Neg_ok h860 ) ?_)
       rintro _ w866 ⟨nr861, A862, n863, c864, rfl, e867, h865⟩
       have E868 := qe E858 e867
       have lh865 := ql h865
       refine qr ?_
       have h869 := (((((((hm.ext n3.ext).ext n8.ext).ext n13.ext).ext n18.ext).ext d297.ext).ext e857).ext e867)
       refine aw_one 5 rfl (by kernel_rfl) .none (oe_callf (vs := [.agg #[.bool nm, .slice Am lm cm]]) co144 (ar1 (Z rfl)) (l1Neg_ok h869 ) ?_)
       rintro _ w875 ⟨nr870, A871, n872, c873, rfl, e876, h874⟩
       have E877 := qe E868 e876
       have lh874 := ql h874
       refine qr ?_
       have H878 := (e876.blk (e867.blk (e857.blk H299)))
       refine aw_one 6 rfl (by kernel_rfl) .none (oe_store (v := .agg #[.bool nr851, .slice A852 n853 c854]) (vs := [.bool nr851, .slice A852 n853 c854]) (l := [.bool nr851, .slice A852 n853 c854]) (Z rfl) (Z rfl) sz88 rfl rfl rfl H878 rfl ?_)
       intro w879 s880 H881
       have E882 := below_st E877 N4 s880
       refine qr ?_
       have H883 := (s880.blk (e876.blk (e867.blk H859)) (by omega))
       refine aw_one 7 rfl (by kernel_rfl) .none (oe_store (v := .agg #[.bool nr861, .slice A862 n863 c864]) (vs := [.bool nr861, .slice A862 n863 c864]) (l := [.bool nr861, .slice A862 n863 c864]) (Z rfl) (Z rfl) sz88 rfl rfl rfl H883 rfl ?_)
       intro w884 s885 H886
       have E887 := below_st E882 N9 s885
       refine qr ?_
       have H888 := (s885.blk (s880.blk (e876.blk (e867.blk (e857.blk H301))) (by omega)) (by omega))
       refine aw_one 8 rfl (by kernel_rfl) .none (oe_store (v := .agg #[.bool nr870, .slice A871 n872 c873]) (vs := [.bool nr870, .slice A871 n872 c873]) (l := [.bool nr870, .slice A871 n872 c873]) (Z rfl) (Z rfl) sz88 rfl rfl rfl H888 rfl ?_)
       intro w889 s890 H891
       have E892 := below_st E887 N14 s890
       refine qr <| aw_done (by kernel_rfl) ?_
       have H893 := (s890.blk (s885.blk H881 (by omega)) (by omega))
       have H894 := (s890.blk H886 (by omega))
       have H895 := (s890.blk (s885.blk (s880.blk (e876.blk (e867.blk (e857.blk (d297.ext.blk n18.blk)))) (by omega)) (by omega)) (by omega))
       have h896 := (((((h855.ext e867).ext e876).st s880 H878 (by decide)).st s885 H883 (by decide)).st s890 H888 (by decide))
       have h897 := ((((h865.ext e876).st s880 H878 (by decide)).st s885 H883 (by decide)).st s890 H888 (by decide))
       have h898 := (((h874.st s880 H878 (by decide)).st s885 H883 (by decide)).st s890 H888 (by decide))
       exact hj76 _ _ ⟨nr851, A852, n853, c854, nr861, A862, n863, c864, nr870, A871, n872, c873, rfl, rfl, rfl, rfl, E892, H893, H894, H891, H895, h896, h897, h898⟩
     refine DV.oe (dv_loads (l := [.bool nb, .slice Ab lb cb]) agt88 sz88 (Z rfl) H300 rfl) <| qr ?_
     have h899 := (((((ha.ext n3.ext).ext n8.ext).ext n13.ext).ext n18.ext).ext d297.ext)
     refine aw_one 1 rfl (by kernel_rfl) .none (oe_callf (vs := [.agg #[.bool na, .slice Aa la ca]]) co144 (ar1 (Z rfl)) (l1Neg_ok h899 ) ?_)
     rintro _ w905 ⟨nr900, A901, n902, c903, rfl, e906, h904⟩
     have E907 := qe E298 e906
     have lh904 := ql h904
     refine qr ?_
     have h908 := ((((((hb.ext n3.ext).ext n8.ext).ext n13.ext).ext n18.ext).ext d297.ext).ext e906)
     refine aw_one 3 rfl (by kernel_rfl) .none (oe_callf (vs := [.agg #[.bool nb, .slice Ab lb cb]]) co144 (ar1 (Z rfl)) (l1Neg_ok h908 ) ?_)
     rintro _ w914 ⟨nr909, A910, n911, c912, rfl, e915, h913⟩
     have E916 := qe E907 e915
     have lh913 := ql h913
     refine qr ?_
     have h917 := (((((((hm.ext n3.ext).ext n8.ext).ext n13.ext).ext n18.ext).ext d297.ext).ext e906).ext e915)
     refine aw_one 5 rfl (by kernel_rfl) .none (oe_callf (vs := [.agg #[.bool nm, .slice Am lm cm]]) co144 (ar1 (Z rfl)) (l1Neg_ok h917 ) ?_)
     rintro _ w923 ⟨nr918, A919, n920, c921, rfl, e924, h922⟩
     have E925 := qe E916 e924
     have lh922 := ql h922
     refine qr ?_
     have H926 := (e924.blk (e915.blk (e906.blk H299)))
     refine aw_one 6 rfl (by kernel_rfl) .none (oe_store (v := .agg #[.bool nr900, .slice A901 n902 c903]) (vs := [.bool nr900, .slice A901 n902 c903]) (l := [.bool nr900, .slice A901 n902 c903]) (Z rfl) (Z rfl) sz88 rfl rfl rfl H926 rfl ?_)
     intro w927 s928 H929
     have E930 := below_st E925 N4 s928
     refine qr ?_
     have H931 := (s928.blk (e924.blk (e915.blk (e906.blk H300))) (by omega))
     refine aw_one 7 rfl (by kernel_rfl) .none (oe_store (v := .agg #[.bool nr909, .slice A910 n911 c912]) (vs := [.bool nr909, .slice A910 n911 c912]) (l := [.bool nr909, .slice A910 n911 c912]) (Z rfl) (Z rfl) sz88 rfl rfl rfl H931 rfl ?_)
     intro w932 s933 H934
     have E935 := below_st E930 N9 s933
     refine qr ?_
     have H936 := (s933.blk (s928.blk (e924.blk (e915.blk (e906.blk H301))) (by omega)) (by omega))
     refine aw_one 8 rfl (by kernel_rfl) .none (oe_store (v := .agg #[.bool nr918, .slice A919 n920 c921]) (vs := [.bool nr918, .slice A919 n920 c921]) (l := [.bool nr918, .slice A919 n920 c921]) (Z rfl) (Z rfl) sz88 rfl rfl rfl H936 rfl ?_)
     intro w937 s938 H939
     have E940 := below_st E935 N14 s938
     refine qr <| aw_done (by kernel_rfl) ?_
     have H941 := (s938.blk (s933.blk H929 (by omega)) (by omega))
     have H942 := (s938.blk H934 (by omega))
     have H943 := (s938.blk (s933.blk (s928.blk (e924.blk (e915.blk (e906.blk (d297.ext.blk n18.blk)))) (by omega)) (by omega)) (by omega))
     have h944 := (((((h904.ext e915).ext e924).st s928 H926 (by decide)).st s933 H931 (by decide)).st s938 H936 (by decide))
     have h945 := ((((h913.ext e924).st s928 H926 (by decide)).st s933 H931 (by decide)).st s938 H936 (by decide))
     have h946 := (((h922.st s928 H926 (by decide)).st s933 H931 (by decide)).st s938 H936 (by decide))
     exact hj76 _ _ ⟨nr900, A901, n902, c903, nr909, A910, n911, c912, nr918, A919, n920, c921, rfl, rfl, rfl, rfl, E940, H941, H942, H939, H943, h944, h945, h946⟩
   refine DV.oe (dv_loads (l := [.bool nb, .slice Ab lb cb]) agt88 sz88 (Z rfl) H300 rfl) <| qr <| aw_one 0 rfl (by kernel_rfl) .none (DV.oe (dv_loads (l := [.bool na, .slice Aa la ca]) agt88 sz88 (Z rfl) H299 rfl) ?_)
   refine qr ?_
   have h947 := (((((ha.ext n3.ext).ext n8.ext).ext n13.ext).ext n18.ext).ext d297.ext)
   refine aw_one 1 rfl (by kernel_rfl) .none (oe_callf (vs := [.agg #[.bool na, .slice Aa la ca]]) co144 (ar1 (Z rfl)) (l1Neg_ok h947 ) ?_)
   rintro _ w953 ⟨nr948, A949, n950, c951, rfl, e954, h952⟩
   have E955 := qe E298 e954
   have lh952 := ql h952
   refine qr ?_
   have h956 := ((((((hb.ext n3.ext).ext n8.ext).ext n13.ext).ext n18.ext).ext d297.ext).ext e954)
   refine aw_one 3 rfl (by kernel_rfl) .none (oe_callf (vs := [.agg #[.bool nb, .slice Ab lb cb]]) co144 (ar1 (Z rfl)) (l1Neg_ok h956 ) ?_)
   rintro _ w962 ⟨nr957, A958, n959, c960, rfl, e963, h961⟩
   have E964 := qe E955 e963
   have lh961 := ql h961
   refine qr ?_
   have h965 := (((((((hm.ext n3.ext).ext n8.ext).ext n13.ext).ext n18.ext).ext d297.ext).ext e954).ext e963)
   refine aw_one 5 rfl (by kernel_rfl) .none (oe_callf (vs := [.agg #[.bool nm, .slice Am lm cm]]) co144 (ar1 (Z rfl)) (l1Neg_ok h965 ) ?_)
   rintro _ w971 ⟨nr966, A967, n968, c969, rfl, e972, h970⟩
   have E973 := qe E964 e972
   have lh970 := ql h970
   refine qr ?_
   have H974 := (e972.blk (e963.blk (e954.blk H299)))
   refine aw_one 6 rfl (by kernel_rfl) .none (oe_store (v := .agg #[.bool nr948, .slice A949 n950 c951]) (vs := [.bool nr948, .slice A949 n950 c951]) (l := [.bool nr948, .slice A949 n950 c951]) (Z rfl) (Z rfl) sz88 rfl rfl rfl H974 rfl ?_)
   intro w975 s976 H977
   have E978 := below_st E973 N4 s976
   refine qr ?_
   have H979 := (s976.blk (e972.blk (e963.blk (e954.blk H300))) (by omega))
   refine aw_one 7 rfl (by kernel_rfl) .none (oe_store (v := .agg #[.bool nr957, .slice A958 n959 c960]) (vs := [.bool nr957, .slice A958 n959 c960]) (l := [.bool nr957, .slice A958 n959 c960]) (Z rfl) (Z rfl) sz88 rfl rfl rfl H979 rfl ?_)
   intro w980 s981 H982
   have E983 := below_st E978 N9 s981
   refine qr ?_
   have H984 := (s981.blk (s976.blk (e972.blk (e963.blk (e954.blk H301))) (by omega)) (by omega))
   refine aw_one 8 rfl (by kernel_rfl) .none (oe_store (v := .agg #[.bool nr966, .slice A967 n968 c969]) (vs := [.bool nr966, .slice A967 n968 c969]) (l := [.bool nr966, .slice A967 n968 c969]) (Z rfl) (Z rfl) sz88 rfl rfl rfl H984 rfl ?_)
   intro w985 s986 H987
   have E988 := below_st E983 N14 s986
   refine qr <| aw_done (by kernel_rfl) ?_
   have H989 := (s986.blk (s981.blk H977 (by omega)) (by omega))
   have H990 := (s986.blk H982 (by omega))
   have H991 := (s986.blk (s981.blk (s976.blk (e972.blk (e963.blk (e954.blk (d297.ext.blk n18.blk)))) (by omega)) (by omega)) (by omega))
   have h992 := (((((h952.ext e963).ext e972).st s976 H974 (by decide)).st s981 H979 (by decide)).st s986 H984 (by decide))
   have h993 := ((((h961.ext e972).st s976 H974 (by decide)).st s981 H979 (by decide)).st s986 H984 (by decide))
   have h994 := (((h970.st s976 H974 (by decide)).st s981 H979 (by decide)).st s986 H984 (by decide))
   exact hj76 _ _ ⟨nr948, A949, n950, c951, nr957, A958, n959, c960, nr966, A967, n968, c969, rfl, rfl, rfl, rfl, E988, H989, H990, H987, H991, h992, h993, h994⟩
 refine rk_cf (T rfl (congrArg Value.bool hb22)) <| rk_skip <| rk_seq ?_
 have H995 := (n18.ext.blk (n13.ext.blk (n8.ext.blk n3.blk)))
 have : b1 < w17.heap.size := lt_of_blk H995
 have H996 := (n18.ext.blk (n13.ext.blk n8.blk))
 have : b6 < w17.heap.size := lt_of_blk H996
 have : b11 < w17.heap.size := lt_of_blk H21
 have : b16 < w17.heap.size := lt_of_blk n18.blk
 have : w.heap.size ≤ w17.heap.size := E20.size
 refine rk_par2 [fun vq wq_ => vq = .agg #[.bool na, .slice Aa la ca], fun vq wq_ => vq = .agg #[.bool nb, .slice Ab lb cb], fun vq wq_ => ∃ (nr1021 : Bool) (A1022 : Option Addr) (n1023 : Nat) (c1024 : Nat), vq = .agg #[.bool nr1021, .slice A1022 n1023 c1024] ∧ Num 32 168 .u32 wq_ nr1021 A1022 n1023 c1024 (gI x y) (max sx sy), fun vq wq_ => vq = .agg #[.bool nm, .slice Am lm cm], fun vq wq_ => ∃ (nr1050 : Bool) (A1051 : Option Addr) (n1052 : Nat) (c1053 : Nat), vq = .agg #[.bool nr1050, .slice A1051 n1052 c1053] ∧ Num 32 168 .u32 wq_ nr1050 A1051 n1052 c1053 (gI (gI x y) u) ((max (max sx sy) su)), fun _ _ => True, fun _ _ => True] [⟨5, 6, 4, 88, #[.bool false, .slice none 0 0]⟩] [88] mo (by kernel_rfl) (by kernel_rfl) ?_ ?_ ?_ ?_ ?_
 · intro e he e2 he2 h; simp only [List.mem_cons, List.not_mem_nil, or_false] at he he2; rcases he with rfl <;> rcases he2 with rfl <;> first | rfl | exact absurd h (by decide)
 · exact ⟨⟨fun v w w2 e h => h, fun v w w2 b cs T fz s hb hT h => h⟩, ⟨fun v w w2 e h => h, fun v w w2 b cs T fz s hb hT h => h⟩, ⟨fun v w w2 e ⟨nr1021, A1022, n1023, c1024, hv, h0_⟩ => ⟨nr1021, A1022, n1023, c1024, hv, h0_.ext e⟩, fun v w w2 b cs T fz s hb hT ⟨nr1021, A1022, n1023, c1024, hv, h0_⟩ => ⟨nr1021, A1022, n1023, c1024, hv, h0_.st s hb (ts_ne hT (by decide))⟩⟩, ⟨fun v w w2 e h => h, fun v w w2 b cs T fz s hb hT h => h⟩, ⟨fun v w w2 e ⟨nr1050, A1051, n1052, c1053, hv, h0_⟩ => ⟨nr1050, A1051, n1052, c1053, hv, h0_.ext e⟩, fun v w w2 b cs T fz s hb hT ⟨nr1050, A1051, n1052, c1053, hv, h0_⟩ => ⟨nr1050, A1051, n1052, c1053, hv, h0_.st s hb (ts_ne hT (by decide))⟩⟩, ⟨fun v w w2 e h => h, fun v w w2 b cs T fz s hb hT h => h⟩, ⟨fun v w w2 e h => h, fun v w w2 b cs T fz s hb hT h => h⟩, trivial⟩
 · refine ⟨?_, ?_, ?_, ?_, ?_, ?_, ?_, trivial⟩
   · refine .inr ⟨by kernel_rfl, ?_⟩
     intro fr998 w997 e999 hF1000 hD1001
     have E1002 := qe E20 e999
     have H1003 := (e999.blk H995)
     exact DV.oe (dv_loads (l := [.bool na, .slice Aa la ca]) agt88 sz88 (T rfl (hF1000 3 (by kernel_rfl))) H1003 rfl) ⟨Below.refl _ _, rfl⟩
   · refine .inr ⟨by kernel_rfl, ?_⟩
     intro fr1005 w1004 e1006 hF1007 hD1008
     have E1009 := qe E20 e1006
     have H1010 := (e1006.blk H996)
     exact DV.oe (dv_loads (l := [.bool nb, .slice Ab lb cb]) agt88 sz88 (T rfl (hF1007 4 (by kernel_rfl))) H1010 rfl) ⟨Below.refl _ _, rfl⟩
   · refine .inr ⟨by kernel_rfl, ?_⟩
     intro fr1012 w1011 e1013 hF1014 hD1015
     have E1016 := qe E20 e1013
     have hv1017 : fr1012 16 = .agg #[.bool na, .slice Aa la ca] := hD1015 0 _ (by kernel_rfl) rfl (by kernel_rfl)
     have hv1018 : fr1012 17 = .agg #[.bool nb, .slice Ab lb cb] := hD1015 1 _ (by kernel_rfl) rfl (by kernel_rfl)
     have h1019 := (((((ha.ext n3.ext).ext n8.ext).ext n13.ext).ext n18.ext).ext e1013)
     have h1020 := (((((hb.ext n3.ext).ext n8.ext).ext n13.ext).ext n18.ext).ext e1013)
     refine oe_callf (vs := [.agg #[.bool na, .slice Aa la ca], .agg #[.bool nb, .slice Ab lb cb]]) co98 (ar2 (T rfl hv1017) (T rfl hv1018)) (l1Gcd_ok h1019 h1020 (by first | decide | omega) (by first | decide | omega)) ?_
     rintro _ w1026 ⟨nr1021, A1022, n1023, c1024, rfl, e1027, h1025⟩
     have E1028 := qe E1016 e1027
     have lh1025 := ql h1025
     exact ⟨e1027, nr1021, A1022, n1023, c1024, rfl, h1025⟩
   · refine .inr ⟨by kernel_rfl, ?_⟩
     intro fr1030 w1029 e1031 hF1032 hD1033
     have E1034 := qe E20 e1031
     have H1035 := (e1031.blk H21)
     exact DV.oe (dv_loads (l := [.bool nm, .slice Am lm cm]) agt88 sz88 (T rfl (hF1032 5 (by kernel_rfl))) H1035 rfl) ⟨Below.refl _ _, rfl⟩
   · refine .inr ⟨by kernel_rfl, ?_⟩
     intro fr1037 w1036 e1038 hF1039 hD1040
     have E1041 := qe E20 e1038
     obtain ⟨nr1042, A1043, n1044, c1045, hv1046, hp1047⟩ : ∃ (nr1021 : Bool) (A1022 : Option Addr) (n1023 : Nat) (c1024 : Nat), fr1037 18 = .agg #[.bool nr1021, .slice A1022 n1023 c1024] ∧ Num 32 168 .u32 w1036 nr1021 A1022 n1023 c1024 (gI x y) ((max sx sy)) := hD1040 2 _ (by kernel_rfl) rfl (by kernel_rfl)
     have lhp1047 := ql hp1047
     have hv1048 : fr1037 19 = .agg #[.bool nm, .slice Am lm cm] := hD1040 3 _ (by kernel_rfl) rfl (by kernel_rfl)
     have h1049 := (((((hm.ext n3.ext).ext n8.ext).ext n13.ext).ext n18.ext).ext e1038)
     refine oe_callf (vs := [.agg #[.bool nr1042, .slice A1043 n1044 c1045], .agg #[.bool nm, .slice Am lm cm]]) co98 (ar2 (T rfl hv1046) (T rfl hv1048)) (l1Gcd_ok hp1047 h1049 (by first | decide | omega) (by first | decide | omega)) ?_
     rintro _ w1055 ⟨nr1050, A1051, n1052, c1053, rfl, e1056, h1054⟩
     have E1057 := qe E1041 e1056
     have lh1054 := ql h1054
     exact ⟨e1056, nr1050, A1051, n1052, c1053, rfl, h1054⟩
   · exact .inl (.inr ⟨by kernel_rfl, fun _ _ => trivial⟩)
   exact .inl (.inl (by kernel_rfl))
 · refine ⟨⟨⟨_, rfl, fun _ _ => oe_alloc ze88 fun b w hn => ⟨b, rfl, hn⟩⟩, ⟨_, rfl, ?_⟩⟩, trivial⟩
   intro fr1059 w1058 b1063 e1060 hF1061 hD1062 hA1064 hB1065
   have E1066 := qe E20 e1060
   obtain ⟨nr1067, A1068, n1069, c1070, hv1071, hp1072⟩ : ∃ (nr1050 : Bool) (A1051 : Option Addr) (n1052 : Nat) (c1053 : Nat), fr1059 20 = .agg #[.bool nr1050, .slice A1051 n1052 c1053] ∧ Num 32 168 .u32 w1058 nr1050 A1051 n1052 c1053 (gI (gI x y) u) ((max (max sx sy) su)) := hD1062 4 _ (by kernel_rfl) rfl (by kernel_rfl)
   have lhp1072 := ql hp1072
   refine oe_store (v := .agg #[.bool nr1067, .slice A1068 n1069 c1070]) (vs := [.bool nr1067, .slice A1068 n1069 c1070]) (l := [.bool nr1067, .slice A1068 n1069 c1070]) (T rfl hA1064) (T rfl hv1071) sz88 rfl rfl rfl hB1065 rfl ?_
   intro w1073 s1074 H1075
   exact ⟨s1074, H1075.trans (congrArg (fun v : Value => some (Obj.cells v.cells 88)) (show fr1059 20 = _ from hv1071).symm)⟩
 intro fr1078 w1077 e1079 hF1080 hP1081 hM1082 hN1083
 have E1084 := qe E20 e1079
 obtain ⟨_, _, _, _, p1085, _, _, _⟩ := hP1081
 obtain ⟨nr1086, A1087, n1088, c1089, hv1090, hp1091⟩ : ∃ (nr1050 : Bool) (A1051 : Option Addr) (n1052 : Nat) (c1053 : Nat), fr1078 20 = .agg #[.bool nr1050, .slice A1051 n1052 c1053] ∧ Num 32 168 .u32 w1077 nr1050 A1051 n1052 c1053 (gI (gI x y) u) ((max (max sx sy) su)) := p1085.resolve_left (nst (by kernel_rfl))
 have lhp1091 := ql hp1091
 obtain ⟨⟨b1092, hA1093, hB1094, hC1095⟩, _⟩ := hM1082
 have H1096 : w1077.heap[b1092]? = some (.cells #[.bool nr1086, .slice A1087 n1088 c1089] 88) := hC1095.trans (congrArg (fun v : Value => some (Obj.cells v.cells 88)) hv1090)
 have N1097 : w.heap.size ≤ b1092 := by omega
 refine rk_seq <| rk_seq <| rk_any (fun w => w.heap[b1092]? = some (.cells #[.bool nr1086, .slice A1087 n1088 c1089] 88)) [] mo ?_
 intro w1098 d1099
 have E1100 := qe E1084 d1099.ext
 have H1101 := (d1099.ext.blk H1096)
 refine aw_load 0 (.agg #[.bool nr1086, .slice A1087 n1088 c1089]) rfl (by kernel_rfl) .none H1101 (fun _ s => dv_loads (l := [.bool nr1086, .slice A1087 n1088 c1089]) agt88 sz88 (T rfl hA1093) s rfl) <| aw_one 1 rfl (by kernel_rfl) .none (oe_callf (vs := [qi 1]) co99 (ar1 C) (l1Int_ok  (by omega)) ?_)
 rintro _ w1107 ⟨nr1102, A1103, n1104, c1105, rfl, e1108, h1106⟩
 have E1109 := qe E1100 e1108
 have lh1106 := ql h1106
 have H1110 := (e1108.blk H1101)
 refine ⟨.inr H1110, ?_⟩
 have h1111 := ((hp1091.ext d1099.ext).ext e1108)
 refine aw_one 2 rfl (by kernel_rfl) .none (oe_callf (vs := [.agg #[.bool nr1086, .slice A1087 n1088 c1089], .agg #[.bool nr1102, .slice A1103 n1104 c1105]]) co97 (ar2 (Z rfl) (Z rfl)) (l1Cmp_ok h1111 h1106 (by first | decide | omega) (by first | decide | omega)) ?_)
 rintro _ w1112 ⟨rfl, e1113⟩
 have E1114 := qe E1109 e1113
 have H1115 := (e1113.blk H1110)
 refine ⟨.inr H1115, ?_⟩
 refine aw_pure 3 (qd ((sgnI ((gI (gI x y) u) - 1)) ≠ 0)) rfl (by kernel_rfl) .none H1115 (fun _ => dv_neq (a := sgnI ((gI (gI x y) u) - 1)) (b := 0) (Z rfl) C) <| aw_done (by kernel_rfl) ?_
 by_cases hb1116 : (sgnI ((gI (gI x y) u) - 1)) ≠ 0
 · refine rk_ct (T rfl (qT hb1116)) <| rk_seq <| rk_reg ?_
   have H1117 := (e1113.blk (e1108.blk (d1099.ext.blk (e1079.blk H995))))
   refine lw_v (.agg #[.bool na, .slice Aa la ca]) (dv_loads (l := [.bool na, .slice Aa la ca]) agt88 sz88 (T rfl (hF1080 3 rfl)) H1117 rfl) <| lw_v (.agg #[.bool nr1086, .slice A1087 n1088 c1089]) (dv_loads (l := [.bool nr1086, .slice A1087 n1088 c1089]) agt88 sz88 (T rfl hA1093) H1115 rfl) ?_
   have h1118 := ((((((((ha.ext n3.ext).ext n8.ext).ext n13.ext).ext n18.ext).ext e1079).ext d1099.ext).ext e1108).ext e1113)
   have h1119 := (h1111.ext e1113)
   refine lw_e (oe_callf (vs := [.agg #[.bool na, .slice Aa la ca], .agg #[.bool nr1086, .slice A1087 n1088 c1089]]) co150 (ar2 (Z rfl) (Z rfl)) (l1Div_ok h1118 h1119 (Int.ne_of_gt (gI_pos hu)) (by first | decide | omega) (by first | decide | omega)) ?_)
   rintro _ w1130 ⟨nr1120, A1121, n1122, c1123, nr1124, A1125, n1126, c1127, rfl, e1131, h1128, h1129⟩
   have E1132 := qe E1114 e1131
   have lh1128 := ql h1128
   have lh1129 := ql h1129
   refine qm (.tuple #[.agg #[.bool nr1120, .slice A1121 n1122 c1123], .agg #[.bool nr1124, .slice A1125 n1126 c1127]]) rfl rfl <| lw_v (.agg #[.bool nr1120, .slice A1121 n1122 c1123]) (dv_extract (vs := #[.agg #[.bool nr1120, .slice A1121 n1122 c1123], .agg #[.bool nr1124, .slice A1125 n1126 c1127]]) (Z rfl) rfl) <| lw_v (.agg #[.bool nr1124, .slice A1125 n1126 c1127]) (dv_extract (vs := #[.agg #[.bool nr1120, .slice A1121 n1122 c1123], .agg #[.bool nr1124, .slice A1125 n1126 c1127]]) (Z rfl) rfl) ?_
   have H1133 := (e1131.blk H1117)
   refine lw_e (oe_store (v := .agg #[.bool nr1120, .slice A1121 n1122 c1123]) (vs := [.bool nr1120, .slice A1121 n1122 c1123]) (l := [.bool nr1120, .slice A1121 n1122 c1123]) (T rfl (hF1080 3 rfl)) (Z rfl) sz88 rfl rfl rfl H1133 rfl ?_)
   intro w1134 s1135 H1136
   have E1137 := below_st E1132 N4 s1135
   refine qN ?_
   have H1138 := (s1135.blk (e1131.blk (e1113.blk (e1108.blk (d1099.ext.blk (e1079.blk H996))))) (by omega))
   refine lw_v (.agg #[.bool nb, .slice Ab lb cb]) (dv_loads (l := [.bool nb, .slice Ab lb cb]) agt88 sz88 (T rfl (hF1080 4 rfl)) H1138 rfl) ?_
   have H1139 := (s1135.blk (e1131.blk H1115) (by omega))
   refine lw_v (.agg #[.bool nr1086, .slice A1087 n1088 c1089]) (dv_loads (l := [.bool nr1086, .slice A1087 n1088 c1089]) agt88 sz88 (T rfl hA1093) H1139 rfl) ?_
   have h1140 := hb.ext E1137
   have h1141 := ((h1119.ext e1131).st s1135 H1133 (by decide))
   refine lw_e (oe_callf (vs := [.agg #[.bool nb, .slice Ab lb cb], .agg #[.bool nr1086, .slice A1087 n1088 c1089]]) co150 (ar2 (Z rfl) (Z rfl)) (l1Div_ok h1140 h1141 (Int.ne_of_gt (gI_pos hu)) (by first | decide | omega) (by first | decide | omega)) ?_)
   rintro _ w1152 ⟨nr1142, A1143, n1144, c1145, nr1146, A1147, n1148, c1149, rfl, e1153, h1150, h1151⟩
   have E1154 := qe E1137 e1153
   have lh1150 := ql h1150
   have lh1151 := ql h1151
   refine qm (.tuple #[.agg #[.bool nr1142, .slice A1143 n1144 c1145], .agg #[.bool nr1146, .slice A1147 n1148 c1149]]) rfl rfl <| lw_v (.agg #[.bool nr1142, .slice A1143 n1144 c1145]) (dv_extract (vs := #[.agg #[.bool nr1142, .slice A1143 n1144 c1145], .agg #[.bool nr1146, .slice A1147 n1148 c1149]]) (Z rfl) rfl) <| lw_v (.agg #[.bool nr1146, .slice A1147 n1148 c1149]) (dv_extract (vs := #[.agg #[.bool nr1142, .slice A1143 n1144 c1145], .agg #[.bool nr1146, .slice A1147 n1148 c1149]]) (Z rfl) rfl) ?_
   have H1155 := (e1153.blk H1138)
   refine lw_e (oe_store (v := .agg #[.bool nr1142, .slice A1143 n1144 c1145]) (vs := [.bool nr1142, .slice A1143 n1144 c1145]) (l := [.bool nr1142, .slice A1143 n1144 c1145]) (T rfl (hF1080 4 rfl)) (Z rfl) sz88 rfl rfl rfl H1155 rfl ?_)
   intro w1156 s1157 H1158
   have E1159 := below_st E1154 N9 s1157
   refine lw_nil <| rk_reg ?_
   have H1160 := (s1157.blk (e1153.blk (s1135.blk (e1131.blk (e1113.blk (e1108.blk (d1099.ext.blk (e1079.blk H21))))) (by omega))) (by omega))
   refine lw_v (.agg #[.bool nm, .slice Am lm cm]) (dv_loads (l := [.bool nm, .slice Am lm cm]) agt88 sz88 (T rfl (hF1080 5 rfl)) H1160 rfl) ?_
   have H1161 := (s1157.blk (e1153.blk H1139) (by omega))
   refine lw_v (.agg #[.bool nr1086, .slice A1087 n1088 c1089]) (dv_loads (l := [.bool nr1086, .slice A1087 n1088 c1089]) agt88 sz88 (T rfl hA1093) H1161 rfl) ?_
   have h1162 := hm.ext E1159
   have h1163 := ((h1141.ext e1153).st s1157 H1155 (by decide))
   refine lw_e (oe_callf (vs := [.agg #[.bool nm, .slice Am lm cm], .agg #[.bool nr1086, .slice A1087 n1088 c1089]]) co150 (ar2 (Z rfl) (Z rfl)) (l1Div_ok h1162 h1163 (Int.ne_of_gt (gI_pos hu)) (by first | decide | omega) (by first | decide | omega)) ?_)
   rintro _ w1174 ⟨nr1164, A1165, n1166, c1167, nr1168, A1169, n1170, c1171, rfl, e1175, h1172, h1173⟩
   have E1176 := qe E1159 e1175
   have lh1172 := ql h1172
   have lh1173 := ql h1173
   refine qm (.tuple #[.agg #[.bool nr1164, .slice A1165 n1166 c1167], .agg #[.bool nr1168, .slice A1169 n1170 c1171]]) rfl rfl <| lw_v (.agg #[.bool nr1164, .slice A1165 n1166 c1167]) (dv_extract (vs := #[.agg #[.bool nr1164, .slice A1165 n1166 c1167], .agg #[.bool nr1168, .slice A1169 n1170 c1171]]) (Z rfl) rfl) <| lw_v (.agg #[.bool nr1168, .slice A1169 n1170 c1171]) (dv_extract (vs := #[.agg #[.bool nr1164, .slice A1165 n1166 c1167], .agg #[.bool nr1168, .slice A1169 n1170 c1171]]) (Z rfl) rfl) ?_
   have H1177 := (e1175.blk H1160)
   refine lw_e (oe_store (v := .agg #[.bool nr1164, .slice A1165 n1166 c1167]) (vs := [.bool nr1164, .slice A1165 n1166 c1167]) (l := [.bool nr1164, .slice A1165 n1166 c1167]) (T rfl (hF1080 5 rfl)) (Z rfl) sz88 rfl rfl rfl H1177 rfl ?_)
   intro w1178 s1179 H1180
   have E1181 := below_st E1176 N14 s1179
   refine qN ?_
   have H1182 := (s1179.blk (e1175.blk (s1157.blk (e1153.blk H1136) (by omega))) (by omega))
   refine lw_v (.agg #[.bool nr1120, .slice A1121 n1122 c1123]) (dv_loads (l := [.bool nr1120, .slice A1121 n1122 c1123]) agt88 sz88 (T rfl (hF1080 3 rfl)) H1182 rfl) ?_
   have H1183 := (s1179.blk (e1175.blk H1158) (by omega))
   refine lw_v (.agg #[.bool nr1142, .slice A1143 n1144 c1145]) (dv_loads (l := [.bool nr1142, .slice A1143 n1144 c1145]) agt88 sz88 (T rfl (hF1080 4 rfl)) H1183 rfl) <| lw_v (.agg #[.bool nr1164, .slice A1165 n1166 c1167]) (dv_loads (l := [.bool nr1164, .slice A1165 n1166 c1167]) agt88 sz88 (T rfl (hF1080 5 rfl)) H1180 rfl) <| lw_v (.agg #[.bool nr1120, .slice A1121 n1122 c1123, .bool nr1142, .slice A1143 n1144 c1145, .bool nr1164, .slice A1165 n1166 c1167]) (dv_build (pv := [(0, .agg #[.bool nr1120, .slice A1121 n1122 c1123]), (1, .agg #[.bool nr1142, .slice A1143 n1144 c1145]), (2, .agg #[.bool nr1164, .slice A1165 n1166 c1167])]) (l := [.bool nr1120, .slice A1121 n1122 c1123, .bool nr1142, .slice A1143 n1144 c1145, .bool nr1164, .slice A1165 n1166 c1167]) zc90 pl90 ⟨rfl, (Z rfl), ⟨rfl, (Z rfl), ⟨rfl, (Z rfl), trivial⟩⟩⟩ rfl) ?_
   have H1184 := (s1179.blk (e1175.blk (s1157.blk (e1153.blk (s1135.blk (e1131.blk (e1113.blk (e1108.blk (d1099.ext.blk (e1079.blk n18.blk))))) (by omega))) (by omega))) (by omega))
   refine lw_e (oe_store (v := .agg #[.bool nr1120, .slice A1121 n1122 c1123, .bool nr1142, .slice A1143 n1144 c1145, .bool nr1164, .slice A1165 n1166 c1167]) (vs := [.bool nr1120, .slice A1121 n1122 c1123, .bool nr1142, .slice A1143 n1144 c1145, .bool nr1164, .slice A1165 n1166 c1167]) (l := [.bool nr1120, .slice A1121 n1122 c1123, .bool nr1142, .slice A1143 n1144 c1145, .bool nr1164, .slice A1165 n1166 c1167]) (T rfl (hF1080 6 rfl)) (Z rfl) sz90 rfl rfl rfl H1184 rfl ?_)
   intro w1185 s1186 H1187
   have E1188 := below_st E1181 N19 s1186
   refine lw_nil <| rk_ret Try.func138 (v := .agg #[.bool nr1120, .slice A1121 n1122 c1123, .bool nr1142, .slice A1143 n1144 c1145, .bool nr1164, .slice A1165 n1166 c1167]) (res1 Try.results138 (rv_cells (l := [.bool nr1120, .slice A1121 n1122 c1123, .bool nr1142, .slice A1143 n1144 c1145, .bool nr1164, .slice A1165 n1166 c1167]) agt90 sz90 rfl (hF1080 6 rfl) H1187 rfl)) ⟨_, rfl, ?_⟩
   have h1189 := ((((((h1128.st s1135 H1133 (by decide)).ext e1153).st s1157 H1155 (by decide)).ext e1175).st s1179 H1177 (by decide)).st s1186 H1184 (by decide))
   have h1190 := ((((h1150.st s1157 H1155 (by decide)).ext e1175).st s1179 H1177 (by decide)).st s1186 H1184 (by decide))
   have h1191 := ((h1172.st s1179 H1177 (by decide)).st s1186 H1184 (by decide))
   exact ⟨_, _, _, _, _, _, _, _, _, _, _, _, rfl, E1188, h1189.to ((by have hgn : gI (gI x y) u = gI3 x y u := (by unfold gI3; rfl); unfold pPt; rw [if_neg (fun hh => by have := hm.neg_iff.2 hh; simp_all), hgn])) (Nat.le_refl _), h1190.to ((by have hgn : gI (gI x y) u = gI3 x y u := (by unfold gI3; rfl); unfold pPt; rw [if_neg (fun hh => by have := hm.neg_iff.2 hh; simp_all), hgn])) (Nat.le_refl _), h1191.to ((by have hgn : gI (gI x y) u = gI3 x y u := (by unfold gI3; rfl); unfold pPt; rw [if_neg (fun hh => by have := hm.neg_iff.2 hh; simp_all), hgn])) (Nat.le_refl _)⟩
 refine rk_cf (T rfl (qF hb1116)) <| rk_skip <| rk_seq <| rk_reg ?_
 have H1192 := (e1113.blk (e1108.blk (d1099.ext.blk (e1079.blk H995))))
 refine lw_v (.agg #[.bool na, .slice Aa la ca]) (dv_loads (l := [.bool na, .slice Aa la ca]) agt88 sz88 (T rfl (hF1080 3 rfl)) H1192 rfl) ?_
 have H1193 := (e1113.blk (e1108.blk (d1099.ext.blk (e1079.blk H996))))
 refine lw_v (.agg #[.bool nb, .slice Ab lb cb]) (dv_loads (l := [.bool nb, .slice Ab lb cb]) agt88 sz88 (T rfl (hF1080 4 rfl)) H1193 rfl) ?_
 have H1194 := (e1113.blk (e1108.blk (d1099.ext.blk (e1079.blk H21))))
 refine lw_v (.agg #[.bool nm, .slice Am lm cm]) (dv_loads (l := [.bool nm, .slice Am lm cm]) agt88 sz88 (T rfl (hF1080 5 rfl)) H1194 rfl) <| lw_v (.agg #[.bool na, .slice Aa la ca, .bool nb, .slice Ab lb cb, .bool nm, .slice Am lm cm]) (dv_build (pv := [(0, .agg #[.bool na, .slice Aa la ca]), (1, .agg #[.bool nb, .slice Ab lb cb]), (2, .agg #[.bool nm, .slice Am lm cm])]) (l := [.bool na, .slice Aa la ca, .bool nb, .slice Ab lb cb, .bool nm, .slice Am lm cm]) zc90 pl90 ⟨rfl, (Z rfl), ⟨rfl, (Z rfl), ⟨rfl, (Z rfl), trivial⟩⟩⟩ rfl) ?_
 have H1195 := (e1113.blk (e1108.blk (d1099.ext.blk (e1079.blk n18.blk))))
 refine lw_e (oe_store (v := .agg #[.bool na, .slice Aa la ca, .bool nb, .slice Ab lb cb, .bool nm, .slice Am lm cm]) (vs := [.bool na, .slice Aa la ca, .bool nb, .slice Ab lb cb, .bool nm, .slice Am lm cm]) (l := [.bool na, .slice Aa la ca, .bool nb, .slice Ab lb cb, .bool nm, .slice Am lm cm]) (T rfl (hF1080 6 rfl)) (Z rfl) sz90 rfl rfl rfl H1195 rfl ?_)
 intro w1196 s1197 H1198
 have E1199 := below_st E1114 N19 s1197
 refine lw_nil <| rk_ret Try.func138 (v := .agg #[.bool na, .slice Aa la ca, .bool nb, .slice Ab lb cb, .bool nm, .slice Am lm cm]) (res1 Try.results138 (rv_cells (l := [.bool na, .slice Aa la ca, .bool nb, .slice Ab lb cb, .bool nm, .slice Am lm cm]) agt90 sz90 rfl (hF1080 6 rfl) H1198 rfl)) ⟨_, rfl, ?_⟩
 have h1200 := ha.ext E1199
 have h1201 := hb.ext E1199
 have h1202 := hm.ext E1199
 exact ⟨_, _, _, _, _, _, _, _, _, _, _, _, rfl, E1199, h1200.to ((by have hgn : gI (gI x y) u = gI3 x y u := (by unfold gI3; rfl); have h1 : gI (gI x y) u = 1 := (by have := @sgnI_zero (gI (gI x y) u - 1); omega); unfold pPt; rw [if_neg (fun hh => by have := hm.neg_iff.2 hh; simp_all), ← hgn, h1, Int.ediv_one])) (Nat.le_refl _), h1201.to ((by have hgn : gI (gI x y) u = gI3 x y u := (by unfold gI3; rfl); have h1 : gI (gI x y) u = 1 := (by have := @sgnI_zero (gI (gI x y) u - 1); omega); unfold pPt; rw [if_neg (fun hh => by have := hm.neg_iff.2 hh; simp_all), ← hgn, h1, Int.ediv_one])) (Nat.le_refl _), h1202.to ((by have hgn : gI (gI x y) u = gI3 x y u := (by unfold gI3; rfl); have h1 : gI (gI x y) u = 1 := (by have := @sgnI_zero (gI (gI x y) u - 1); omega); unfold pPt; rw [if_neg (fun hh => by have := hm.neg_iff.2 hh; simp_all), ← hgn, h1, Int.ediv_one])) (Nat.le_refl _)⟩
end Go.Proofs.Ytmbpomcbdopgnaa.W
