/- Walks and plain mathematics, packed by a program of this session: declarations that the rows reach. -/
import Derived.Test.YtmbpomcbdopgnaaPvm
set_option linter.unusedVariables false
set_option linter.unusedSimpArgs false
namespace Go.Proofs.Ytmbpomcbdopgnaa.W
open Go Go.RowKit Go.Proofs.Ytmbpomcbdopgnaa.Fw
attribute [local irreducible] RunK LW AW DV OE Ct
theorem agt61 : aggB Try.prog 61 = some true := by kernel_rfl
theorem co27 : callOk Try.prog 27 = true := by kernel_rfl
theorem co28 : callOk Try.prog 28 = true := by kernel_rfl
theorem co29 : callOk Try.prog 29 = true := by kernel_rfl
theorem co30 : callOk Try.prog 30 = true := by kernel_rfl
theorem co31 : callOk Try.prog 31 = true := by kernel_rfl
theorem co32 : callOk Try.prog 32 = true := by kernel_rfl
theorem co33 : callOk Try.prog 33 = true := by kernel_rfl
theorem co34 : callOk Try.prog 34 = true := by kernel_rfl
theorem co35 : callOk Try.prog 35 = true := by kernel_rfl
theorem co36 : callOk Try.prog 36 = true := by kernel_rfl
theorem sz61 : sizeB Try.prog 61 = some 12 := by kernel_rfl
set_option maxHeartbeats 1000000 in
theorem lawStatusAt_ok {w : World} {x y u : Int} {A : Option Addr} {l c : Nat} {xs : List Int} (hx : RdI w .i64 A xs) (hxl : xs.length = l * 4) (hxc : l ≤ c) (hxm : c ≤ 9223372036854775807) (fx_ : fits x) (fy_ : fits y) (fu_ : fits u) : Ct Try.prog 6 [.slice A l c, .agg #[.int .u64 (wv3 x), .int .u64 (wv2 x), .int .u64 (wv1 x), .int .u64 (wv0 x), .int .u64 (wv3 y), .int .u64 (wv2 y), .int .u64 (wv1 y), .int .u64 (wv0 y), .int .u64 (wv3 u), .int .u64 (wv2 u), .int .u64 (wv1 u), .int .u64 (wv0 u)]] w fun v w1 => v = .bool true ∧ Ext w w1 := by
 refine ct_run (n := 77) Try.func6 rfl Try.ntmps6 rfl ?_
 have E0 : Below w.heap.size w w := Below.refl _ _
 refine rk_seq <| rk_reg <| lw_e (oe_box (v := .agg (qA x y u)) (cs := (qA x y u)) (Z rfl) rfl ?_)
 intro b1 w2 n3
 have N4 : w.heap.size ≤ b1 := n3.eq ▸ E0.size
 have E5 := qe E0 n3.ext
 refine lw_v (.bool false) (dv_assign C) <| qN <| lw_v (qi 1048576) (dv_assign C) <| qN <| qm (.slice A l c) rfl rfl <| qm (qi 1048576) rfl rfl <| lw_e (oe_callf (vs := [.slice A l c, qi 1048576]) co27 (ar2 (Z rfl) (Z rfl)) (szSegS_ok (A := A) (c := c) (by omega) (by omega)) ?_)
 rintro _ w6 ⟨rfl, e7⟩
 have E8 := qe E5 e7
 refine qs (qi (szV l 1048576)) rfl rfl <| lw_nil <| rk_seq <| rk_seq <| rk_reg <| qm (qi (szV l 1048576)) rfl rfl <| lw_v _ (dv_lss (a := szV l 1048576) (b := 0) (Z rfl) C) <| lw_nil ?_
 by_cases hb9 : (szV l 1048576) < 0
 · refine rk_ct (T rfl (qT hb9)) <| rk_seq <| rk_reg <| lw_v (.bool true) (dv_assign C) <| lw_nil <| rk_ret Try.func6 (v := .bool true) (res1 Try.results6 (rv_tmp rfl rfl)) ⟨_, rfl, ?_⟩
   exact ⟨rfl, E8⟩
 have := szV_rg hb9
 refine rk_cf (T rfl (qF hb9)) <| rk_skip <| rk_seq <| rk_any (fun w => w.heap[b1]? = some (.cells (qA x y u) 61)) [5] mo ?_
 intro w10 d11
 have E12 := qe E8 d11.ext
 have H13 := (d11.ext.blk (e7.blk n3.blk))
 refine aw_pure 0 (.slice A l c) rfl (by kernel_rfl) .none H13 (fun _ => dv_move (Z rfl)) <| aw_load 2 (.agg (qA x y u)) rfl (by kernel_rfl) .none H13 (fun _ s => dv_loads (l := (qL x y u)) agt61 sz61 (Z rfl) s rfl) ?_
 have h14 := (((hx.ext n3.ext).ext e7).ext d11.ext)
 have : b1 < w10.heap.size := lt_of_blk H13
 have : w.heap.size ≤ w10.heap.size := E12.size
 refine aw_one 1 rfl (by kernel_rfl) .none (oe_callf (vs := [.slice A l c]) co29 (ar1 (Z rfl)) (toSegS_ok (l := l) (c := c) (xs := xs) h14 (by first | omega | simp <;> omega) (by first | omega | simp <;> omega)) ?_)
 rintro _ w18 ⟨b15, rfl, e19, H16, hN17⟩
 have E20 := qe E12 e19
 have : b1 < b15 := by omega
 have N21 : w.heap.size ≤ b15 := by omega
 have H22 := (e19.blk H13)
 refine ⟨.inr H22, ?_⟩
 refine aw_one 3 rfl (by kernel_rfl) .none (oe_callf (vs := [.agg (qA x y u)]) co30 (ar1 (Z rfl)) (toPoint_ok (x := x) (y := y) (u := u)  ) ?_)
 rintro _ w23 ⟨rfl, e24⟩
 have E25 := qe E20 e24
 have H26 := (e24.blk H22)
 refine ⟨.inr H26, ?_⟩
 have H27 := (e24.blk H16)
 have N31 : w.heap.size ≤ w23.heap.size := E25.size
 have : b1 < w23.heap.size := lt_of_blk H26
 have : b15 < w23.heap.size := lt_of_blk H27
 refine aw_one 4 rfl (by kernel_rfl) .none (oe_callf (vs := [.slice (some ⟨b15, 0, none⟩) l l, .agg (qA x y u)]) co28 (ar2 (Z rfl) (Z rfl)) (sStatusAt_ok (l := l) (c := l) (xs := xs) (Wd.rdI (Wd.ownW H27)) (by first | omega | simp <;> omega) (by first | omega | simp <;> omega) fx_ fy_ fu_) ?_)
 rintro _ w32 ⟨Ad28, cp29, rfl, e33, hO30⟩
 have E34 := qe E25 e33
 have := stR_len l xs x y u
 have H35 := (e33.blk H26)
 refine ⟨.inr H35, ?_⟩
 refine aw_last 5 (.slice Ad28 ((stR l xs x y u).length) cp29) rfl (by kernel_rfl) .none (fun _ => dv_assign (Z rfl)) <| aw_done (by kernel_rfl) <| rk_seq <| rk_reg <| qm (.slice A l c) rfl rfl ?_
 have h36 := (((h14.ext e19).ext e24).ext e33)
 have : b1 < w32.heap.size := lt_of_blk H35
 have H42 := (e33.blk H27)
 have : b15 < w32.heap.size := lt_of_blk H42
 have : w.heap.size ≤ w32.heap.size := E34.size
 refine lw_e (oe_callf (vs := [.slice A l c]) co29 (ar1 (Z rfl)) (toSegS_ok (l := l) (c := c) (xs := xs) h36 (by first | omega | simp <;> omega) (by first | omega | simp <;> omega)) ?_)
 rintro _ w40 ⟨b37, rfl, e41, H38, hN39⟩
 have E43 := qe E34 e41
 have : b1 < b37 := by omega
 have : b15 < b37 := by omega
 have N44 : w.heap.size ≤ b37 := by omega
 refine qs (.slice (some ⟨b37, 0, none⟩) l l) rfl rfl <| qN <| qm (.slice (some ⟨b37, 0, none⟩) l l) rfl rfl ?_
 have H45 := (e41.blk H35)
 refine lw_v (.agg (qA x y u)) (dv_loads (l := (qL x y u)) agt61 sz61 (Z rfl) H45 rfl) <| lw_e (oe_callf (vs := [.agg (qA x y u)]) co30 (ar1 (Z rfl)) (toPoint_ok (x := x) (y := y) (u := u)  ) ?_)
 rintro _ w46 ⟨rfl, e47⟩
 have E48 := qe E43 e47
 have H49 := (e47.blk H38)
 have N53 : w.heap.size ≤ w46.heap.size := E48.size
 have H56 := (e47.blk H45)
 have : b1 < w46.heap.size := lt_of_blk H56
 have H57 := (e47.blk (e41.blk H42))
 have : b15 < w46.heap.size := lt_of_blk H57
 have : b37 < w46.heap.size := lt_of_blk H49
 have h59 := ((hO30.ext e41).ext e47)
 have lt58 := h59.lt
 refine lw_e (oe_callf (vs := [.slice (some ⟨b37, 0, none⟩) l l, .agg (qA x y u)]) co31 (ar2 (Z rfl) (Z rfl)) (iStatusAt_ok (l := l) (c := l) (xs := xs) (Wd.rdI (Wd.ownW H49)) (by first | omega | simp <;> omega) (by first | omega | simp <;> omega) fx_ fy_ fu_) ?_)
 rintro _ w54 ⟨Ad50, cp51, rfl, e55, hO52⟩
 have E60 := qe E48 e55
 have := stR_len l xs x y u
 refine qs (.slice Ad50 ((stR l xs x y u).length) cp51) rfl rfl <| lw_nil <| rk_seq <| rk_seq <| rk_reg <| qm (.slice Ad50 ((stR l xs x y u).length) cp51) rfl rfl <| qm (.slice Ad28 ((stR l xs x y u).length) cp29) rfl rfl ?_
 have h61 := (h59.ext e55)
 refine lw_e (oe_callf (vs := [.slice Ad50 ((stR l xs x y u).length) cp51, .slice Ad28 ((stR l xs x y u).length) cp29]) co32 (ar2 (Z rfl) (Z rfl)) (eqInt64S_ok (l := (stR l xs x y u).length) (m := (stR l xs x y u).length) (c := cp51) (d := cp29) (xs := (stR l xs x y u)) (ys := (stR l xs x y u)) (Wd.rdI hO52.wd) (by first | omega | simp <;> omega) (by first | omega | simp <;> omega) (Wd.rdI h61.wd) (by first | omega | simp <;> omega) (by first | omega | simp <;> omega)) ?_)
 rintro _ w62 ⟨rfl, e63⟩
 have E64 := qe E60 e63
 refine lw_v (qd (¬ (((stR l xs x y u) : List Int) = (stR l xs x y u)))) (dv_notd (p := ((stR l xs x y u) : List Int) = (stR l xs x y u)) (Z rfl)) <| lw_nil ?_
 by_cases hb65 : ((stR l xs x y u) : List Int) = (stR l xs x y u)
 · refine rk_cf (T rfl (congrArg Value.bool (decide_eq_false (not_not_intro hb65)))) <| rk_skip <| rk_seq <| rk_seq <| rk_reg <| qm (.slice (some ⟨b37, 0, none⟩) l l) rfl rfl <| qm (.slice A l c) rfl rfl ?_
   have h66 := ((((h36.ext e41).ext e47).ext e55).ext e63)
   have H72 := (e63.blk (e55.blk H56))
   have : b1 < w62.heap.size := lt_of_blk H72
   have H73 := (e63.blk (e55.blk H57))
   have : b15 < w62.heap.size := lt_of_blk H73
   have H74 := (e63.blk (e55.blk H49))
   have : b37 < w62.heap.size := lt_of_blk H74
   have : w.heap.size ≤ w62.heap.size := E64.size
   refine lw_e (oe_callf (vs := [.slice A l c]) co29 (ar1 (Z rfl)) (toSegS_ok (l := l) (c := c) (xs := xs) h66 (by first | omega | simp <;> omega) (by first | omega | simp <;> omega)) ?_)
   rintro _ w70 ⟨b67, rfl, e71, H68, hN69⟩
   have E75 := qe E64 e71
   have : b1 < b67 := by omega
   have : b15 < b67 := by omega
   have : b37 < b67 := by omega
   have N76 : w.heap.size ≤ b67 := by omega
   have H77 := (e71.blk H74)
   refine lw_e (oe_callf (vs := [.slice (some ⟨b37, 0, none⟩) l l, .slice (some ⟨b67, 0, none⟩) l l]) co33 (ar2 (Z rfl) (Z rfl)) (eqSegS_ok (l := l) (m := l) (c := l) (d := l) (xs := xs) (ys := xs) (Wd.rdI (Wd.ownW H77)) (by first | omega | simp <;> omega) (by first | omega | simp <;> omega) (Wd.rdI (Wd.ownW H68)) (by first | omega | simp <;> omega) (by first | omega | simp <;> omega)) ?_)
   rintro _ w78 ⟨rfl, e79⟩
   have E80 := qe E75 e79
   refine lw_v (qd (¬ ((xs : List Int) = xs))) (dv_notd (p := (xs : List Int) = xs) (Z rfl)) <| lw_nil ?_
   by_cases hb81 : (xs : List Int) = xs
   · refine rk_cf (T rfl (congrArg Value.bool (decide_eq_false (not_not_intro hb81)))) <| rk_skip <| rk_seq <| rk_reg <| lw_v (qi 1) (dv_assign C) <| qN <| qm (.slice (some ⟨b37, 0, none⟩) l l) rfl rfl <| qm (qi 1) rfl rfl ?_
     have H85 := (e79.blk H77)
     refine lw_e (oe_callf (vs := [.slice (some ⟨b37, 0, none⟩) l l, qi 1]) co34 (ar2 (Z rfl) (Z rfl)) (markSegS_ok (xs := xs) H85 (by first | omega | simp <;> omega) (by first | omega | simp <;> omega) (by omega)) ?_)
     rintro _ w86 ⟨rfl, e87, M82, hl83, H84⟩
     have E88 := below_st E80 N44 e87
     refine qs (qi (1 + (l : Int) * 4)) rfl rfl <| lw_nil <| rk_seq <| rk_seq <| rk_reg <| qm (qi (1 + (l : Int) * 4)) rfl rfl <| lw_v _ (dv_lss (a := 1 + (l : Int) * 4) (b := 0) (Z rfl) C) <| qm (qd ((1 + (l : Int) * 4) < 0)) rfl rfl ?_
     by_cases hb89 : (1 + (l : Int) * 4) < 0
     · refine lw_no (d := 43) rfl rfl (qT hb89) <| lw_no (d := 43) rfl rfl (qT hb89) <| lw_no (d := 43) rfl rfl (qT hb89) <| lw_no (d := 43) rfl rfl (qT hb89) <| lw_v (.bool true) (dv_pick_t (T rfl (qT hb89)) C) <| lw_nil <| rk_ct (Z rfl) <| rk_seq <| rk_reg <| lw_v (.bool false) (dv_assign C) <| lw_nil <| rk_ret Try.func6 (v := .bool false) (res1 Try.results6 (rv_tmp rfl rfl)) ⟨_, rfl, ?_⟩
       exact ⟨(by exfalso; first | contradiction | exact absurd rfl (by assumption) | omega), E88⟩
     refine lw_vy (.slice Ad50 ((stR l xs x y u).length) cp51) (d := 43) rfl rfl (qF hb89) (dv_move (Z rfl)) <| lw_vy (.slice Ad28 ((stR l xs x y u).length) cp29) (d := 43) rfl rfl (qF hb89) (dv_move (Z rfl)) ?_
     have h90 := ((((hO52.ext e63).ext e71).ext e79).st e87 H85 (by decide))
     have h91 := ((((h61.ext e63).ext e71).ext e79).st e87 H85 (by decide))
     refine lw_ey (d := 43) rfl rfl (qF hb89) (oe_callf (vs := [.slice Ad50 ((stR l xs x y u).length) cp51, .slice Ad28 ((stR l xs x y u).length) cp29]) co32 (ar2 (Z rfl) (Z rfl)) (eqInt64S_ok (l := (stR l xs x y u).length) (m := (stR l xs x y u).length) (c := cp51) (d := cp29) (xs := (stR l xs x y u)) (ys := (stR l xs x y u)) (Wd.rdI h90.wd) (by first | omega | simp <;> omega) (by first | omega | simp <;> omega) (Wd.rdI h91.wd) (by first | omega | simp <;> omega) (by first | omega | simp <;> omega)) ?_)
     rintro _ w92 ⟨rfl, e93⟩
     have E94 := qe E88 e93
     refine lw_vy (qd (¬ (((stR l xs x y u) : List Int) = (stR l xs x y u)))) (d := 43) rfl rfl (qF hb89) (dv_notd (p := ((stR l xs x y u) : List Int) = (stR l xs x y u)) (Z rfl)) <| lw_v (qd (¬ (((stR l xs x y u) : List Int) = (stR l xs x y u)))) (dv_pick_f (T rfl (qF hb89)) (Z rfl)) <| lw_nil <| rk_cf (T rfl (congrArg Value.bool (decide_eq_false (not_not_intro hb65)))) <| rk_skip <| rk_seq <| rk_reg <| lw_v (qi 1) (dv_assign C) <| qN <| qm (.slice Ad50 ((stR l xs x y u).length) cp51) rfl rfl <| qm (qi 1) rfl rfl ?_
     have h95 := (h90.ext e93)
     refine lw_e (oe_callf (vs := [.slice Ad50 ((stR l xs x y u).length) cp51, qi 1]) co35 (ar2 (Z rfl) (Z rfl)) (markInt64S_ok h95 rfl (by first | omega | simp <;> omega) (by omega)) ?_)
     rintro _ w97 ⟨rfl, e98, hO96⟩
     have E99 := below_bl E94 N53 e98
     refine qs (qi (1 + ((stR l xs x y u).length : Int))) rfl rfl <| qN <| lw_v (qi 1) (dv_assign C) <| qN <| qm (.slice Ad50 ((stR l xs x y u).length) cp51) rfl rfl <| qm (qi 1) rfl rfl <| lw_e (oe_callf (vs := [.slice Ad50 ((stR l xs x y u).length) cp51, qi 1]) co36 (ar2 (Z rfl) (Z rfl)) (heldInt64S_ok (n := (stR l xs x y u).length) (c := cp51) (xs := (mkL 1 ((stR l xs x y u).length))) (k := 1) (Wd.rdI hO96.wd) (by first | rfl | first | omega | (simp; done) | (simp; omega) | exact mkL_len _ _) (by first | omega | simp <;> omega) rfl (by omega)) ?_)
     rintro _ w100 ⟨rfl, e101⟩
     have E102 := qe E99 e101
     refine qs (qi (1 + ((stR l xs x y u).length : Int))) rfl rfl <| lw_nil <| rk_seq <| rk_seq <| rk_reg <| qm (qi (1 + ((stR l xs x y u).length : Int))) rfl rfl <| lw_v _ (dv_lss (a := 1 + ((stR l xs x y u).length : Int)) (b := 0) (Z rfl) C) <| lw_nil ?_
     by_cases hb103 : (1 + ((stR l xs x y u).length : Int)) < 0
     · refine rk_ct (T rfl (qT hb103)) <| rk_seq <| rk_reg <| lw_v (.bool false) (dv_assign C) <| lw_nil <| rk_ret Try.func6 (v := .bool false) (res1 Try.results6 (rv_tmp rfl rfl)) ⟨_, rfl, ?_⟩
       exact ⟨(by exfalso; first | contradiction | exact absurd rfl (by assumption) | omega), E102⟩
     refine rk_cf (T rfl (qF hb103)) <| rk_skip <| rk_seq <| rk_seq <| rk_reg <| qm (qi (1 + ((stR l xs x y u).length : Int))) rfl rfl <| qm (qi (1 + ((stR l xs x y u).length : Int))) rfl rfl <| lw_v _ (dv_neq (a := 1 + ((stR l xs x y u).length : Int)) (b := 1 + ((stR l xs x y u).length : Int)) (Z rfl) (Z rfl)) <| lw_nil ?_
     by_cases hb104 : (1 + ((stR l xs x y u).length : Int)) ≠ (1 + ((stR l xs x y u).length : Int))
     · refine rk_ct (T rfl (qT hb104)) <| rk_seq <| rk_reg <| lw_v (.bool false) (dv_assign C) <| lw_nil <| rk_ret Try.func6 (v := .bool false) (res1 Try.results6 (rv_tmp rfl rfl)) ⟨_, rfl, ?_⟩
       exact ⟨(by exfalso; first | contradiction | exact absurd rfl (by assumption) | omega), E102⟩
     refine rk_cf (T rfl (qF hb104)) <| rk_skip <| rk_seq <| rk_any (fun w => w.heap[b1]? = some (.cells (qA x y u) 61)) [5] mo ?_
     intro w105 d106
     have E107 := qe E102 d106.ext
     have H108 := (d106.ext.blk (e101.blk (bl_blk e98 (e93.blk (e87.blk (e79.blk (e71.blk H72)) (by omega))) (by omega))))
     refine aw_pure 0 (.slice A l c) rfl (by kernel_rfl) .none H108 (fun _ => dv_move (Z rfl)) <| aw_load 2 (.agg (qA x y u)) rfl (by kernel_rfl) .none H108 (fun _ s => dv_loads (l := (qL x y u)) agt61 sz61 (Z rfl) s rfl) ?_
     have h109 := hx.ext E107
     have : b1 < w105.heap.size := lt_of_blk H108
     have H115 := (d106.ext.blk (e101.blk (bl_blk e98 (e93.blk (e87.blk (e79.blk (e71.blk H73)) (by omega))) (by omega))))
     have : b15 < w105.heap.size := lt_of_blk H115
     have H116 := (d106.ext.blk (e101.blk (bl_blk e98 (e93.blk H84) (by omega))))
     have : b37 < w105.heap.size := lt_of_blk H116
     have : w.heap.size ≤ w105.heap.size := E107.size
     refine aw_one 1 rfl (by kernel_rfl) .none (oe_callf (vs := [.slice A l c]) co29 (ar1 (Z rfl)) (toSegS_ok (l := l) (c := c) (xs := xs) h109 (by first | omega | simp <;> omega) (by first | omega | simp <;> omega)) ?_)
     rintro _ w113 ⟨b110, rfl, e114, H111, hN112⟩
     have E117 := qe E107 e114
     have : b1 < b110 := by omega
     have : b15 < b110 := by omega
     have : b37 < b110 := by omega
     have N118 : w.heap.size ≤ b110 := by omega
     have H119 := (e114.blk H108)
     refine ⟨.inr H119, ?_⟩
     refine aw_one 3 rfl (by kernel_rfl) .none (oe_callf (vs := [.agg (qA x y u)]) co30 (ar1 (Z rfl)) (toPoint_ok (x := x) (y := y) (u := u)  ) ?_)
     rintro _ w120 ⟨rfl, e121⟩
     have E122 := qe E117 e121
     have H123 := (e121.blk H119)
     refine ⟨.inr H123, ?_⟩
     have H124 := (e121.blk H111)
     have N128 : w.heap.size ≤ w120.heap.size := E122.size
     have : b1 < w120.heap.size := lt_of_blk H123
     have H131 := (e121.blk (e114.blk H115))
     have : b15 < w120.heap.size := lt_of_blk H131
     have H132 := (e121.blk (e114.blk H116))
     have : b37 < w120.heap.size := lt_of_blk H132
     have : b110 < w120.heap.size := lt_of_blk H124
     have h134 := ((((hO96.ext e101).ext d106.ext).ext e114).ext e121)
     have lt133 := h134.lt
     refine aw_one 4 rfl (by kernel_rfl) .none (oe_callf (vs := [.slice (some ⟨b110, 0, none⟩) l l, .agg (qA x y u)]) co31 (ar2 (Z rfl) (Z rfl)) (iStatusAt_ok (l := l) (c := l) (xs := xs) (Wd.rdI (Wd.ownW H124)) (by first | omega | simp <;> omega) (by first | omega | simp <;> omega) fx_ fy_ fu_) ?_)
     rintro _ w129 ⟨Ad125, cp126, rfl, e130, hO127⟩
     have E135 := qe E122 e130
     have := stR_len l xs x y u
     have H136 := (e130.blk H123)
     refine ⟨.inr H136, ?_⟩
     refine aw_last 5 (.slice Ad125 ((stR l xs x y u).length) cp126) rfl (by kernel_rfl) .none (fun _ => dv_assign (Z rfl)) <| aw_done (by kernel_rfl) <| rk_seq <| rk_seq <| rk_reg <| qm (.slice Ad125 ((stR l xs x y u).length) cp126) rfl rfl <| qm (.slice Ad28 ((stR l xs x y u).length) cp29) rfl rfl ?_
     have h137 := (((((((h91.ext e93).bl e98 (fun g_ o_ h_ => by have := lt58 g_ o_ h_; omega)).ext e101).ext d106.ext).ext e114).ext e121).ext e130)
     refine lw_e (oe_callf (vs := [.slice Ad125 ((stR l xs x y u).length) cp126, .slice Ad28 ((stR l xs x y u).length) cp29]) co32 (ar2 (Z rfl) (Z rfl)) (eqInt64S_ok (l := (stR l xs x y u).length) (m := (stR l xs x y u).length) (c := cp126) (d := cp29) (xs := (stR l xs x y u)) (ys := (stR l xs x y u)) (Wd.rdI hO127.wd) (by first | omega | simp <;> omega) (by first | omega | simp <;> omega) (Wd.rdI h137.wd) (by first | omega | simp <;> omega) (by first | omega | simp <;> omega)) ?_)
     rintro _ w138 ⟨rfl, e139⟩
     have E140 := qe E135 e139
     refine lw_v (qd (¬ (((stR l xs x y u) : List Int) = (stR l xs x y u)))) (dv_notd (p := ((stR l xs x y u) : List Int) = (stR l xs x y u)) (Z rfl)) <| lw_nil <| rk_cf (T rfl (congrArg Value.bool (decide_eq_false (not_not_intro hb65)))) <| rk_skip <| rk_seq <| rk_reg <| lw_v (qi 1) (dv_assign C) <| qN <| qm (.slice Ad50 ((stR l xs x y u).length) cp51) rfl rfl <| qm (qi 1) rfl rfl ?_
     have h141 := ((h134.ext e130).ext e139)
     refine lw_e (oe_callf (vs := [.slice Ad50 ((stR l xs x y u).length) cp51, qi 1]) co36 (ar2 (Z rfl) (Z rfl)) (heldInt64S_ok (n := (stR l xs x y u).length) (c := cp51) (xs := (mkL 1 ((stR l xs x y u).length))) (k := 1) (Wd.rdI h141.wd) (by first | rfl | first | omega | (simp; done) | (simp; omega) | exact mkL_len _ _) (by first | omega | simp <;> omega) rfl (by omega)) ?_)
     rintro _ w142 ⟨rfl, e143⟩
     have E144 := qe E140 e143
     refine qs (qi (1 + ((stR l xs x y u).length : Int))) rfl rfl <| lw_nil <| rk_seq <| rk_seq <| rk_reg <| qm (qi (1 + ((stR l xs x y u).length : Int))) rfl rfl <| lw_v _ (dv_lss (a := 1 + ((stR l xs x y u).length : Int)) (b := 0) (Z rfl) C) <| lw_nil <| rk_cf (T rfl (qF hb103)) <| rk_skip <| rk_seq <| rk_seq <| rk_reg <| qm (qi (1 + ((stR l xs x y u).length : Int))) rfl rfl <| qm (qi (1 + ((stR l xs x y u).length : Int))) rfl rfl <| lw_v _ (dv_neq (a := 1 + ((stR l xs x y u).length : Int)) (b := 1 + ((stR l xs x y u).length : Int)) (Z rfl) (Z rfl)) <| lw_nil <| rk_cf (T rfl (qF hb104)) <| rk_skip <| rk_seq <| rk_reg <| lw_v (.bool true) (dv_assign C) <| lw_nil <| rk_ret Try.func6 (v := .bool true) (res1 Try.results6 (rv_tmp rfl rfl)) ⟨_, rfl, ?_⟩
     exact ⟨rfl, E144⟩
   refine rk_ct (T rfl (qT hb81)) <| rk_seq <| rk_reg <| lw_v (.bool false) (dv_assign C) <| lw_nil <| rk_ret Try.func6 (v := .bool false) (res1 Try.results6 (rv_tmp rfl rfl)) ⟨_, rfl, ?_⟩
   exact ⟨(by exfalso; first | contradiction | exact absurd rfl (by assumption) | omega), E80⟩
 refine rk_ct (T rfl (qT hb65)) <| rk_seq <| rk_reg <| lw_v (.bool false) (dv_assign C) <| lw_nil <| rk_ret Try.func6 (v := .bool false) (res1 Try.results6 (rv_tmp rfl rfl)) ⟨_, rfl, ?_⟩
 exact ⟨(by exfalso; first | contradiction | exact absurd rfl (by assumption) | omega), E64⟩
theorem lawStatusAt_w {w : World} {x3 x2 x1 x0 y3 y2 y1 y0 u3 u2 u1 u0 : Int} {A : Option Addr} {l c : Nat} {xs : List Int} (hx : RdI w .i64 A xs) (hxl : xs.length = l * 4) (hxc : l ≤ c) (hxm : c ≤ 9223372036854775807) (hx3 : 0 ≤ x3 ∧ x3 < 18446744073709551616) (hx2 : 0 ≤ x2 ∧ x2 < 18446744073709551616) (hx1 : 0 ≤ x1 ∧ x1 < 18446744073709551616) (hx0 : 0 ≤ x0 ∧ x0 < 18446744073709551616) (hy3 : 0 ≤ y3 ∧ y3 < 18446744073709551616) (hy2 : 0 ≤ y2 ∧ y2 < 18446744073709551616) (hy1 : 0 ≤ y1 ∧ y1 < 18446744073709551616) (hy0 : 0 ≤ y0 ∧ y0 < 18446744073709551616) (hu3 : 0 ≤ u3 ∧ u3 < 18446744073709551616) (hu2 : 0 ≤ u2 ∧ u2 < 18446744073709551616) (hu1 : 0 ≤ u1 ∧ u1 < 18446744073709551616) (hu0 : 0 ≤ u0 ∧ u0 < 18446744073709551616) : Ct Try.prog 6 [.slice A l c, .agg #[.int .u64 x3, .int .u64 x2, .int .u64 x1, .int .u64 x0, .int .u64 y3, .int .u64 y2, .int .u64 y1, .int .u64 y0, .int .u64 u3, .int .u64 u2, .int .u64 u1, .int .u64 u0]] w fun v w1 => v = .bool true ∧ Ext w w1 := by
 obtain ⟨x, fx, rfl, rfl, rfl, rfl⟩ := words_z hx3 hx2 hx1 hx0
 obtain ⟨y, fy, rfl, rfl, rfl, rfl⟩ := words_z hy3 hy2 hy1 hy0
 obtain ⟨u, fu, rfl, rfl, rfl, rfl⟩ := words_z hu3 hu2 hu1 hu0
 exact lawStatusAt_ok hx hxl hxc hxm fx fy fu
end Go.Proofs.Ytmbpomcbdopgnaa.W
