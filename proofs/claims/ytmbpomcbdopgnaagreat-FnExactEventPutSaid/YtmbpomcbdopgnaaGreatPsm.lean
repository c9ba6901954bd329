/- Walks and plain mathematics, packed by a program of this session: declarations that the rows reach. -/
import Derived.Test.YtmbpomcbdopgnaaGreatPsl
set_option linter.unusedVariables false
set_option linter.unusedSimpArgs false
namespace Go.Proofs.YtmbpomcbdopgnaaGreat.W
open Go Go.RowKit Go.Proofs.YtmbpomcbdopgnaaGreat.Fw
attribute [local irreducible] RunK LW AW DV OE Ct
theorem co13 : callOk Tryz.prog 13 = true := by kernel_rfl
theorem co16 : callOk Tryz.prog 16 = true := by kernel_rfl
theorem co19 : callOk Tryz.prog 19 = true := by kernel_rfl
theorem co22 : callOk Tryz.prog 22 = true := by kernel_rfl
theorem co25 : callOk Tryz.prog 25 = true := by kernel_rfl
theorem co27 : callOk Tryz.prog 27 = true := by kernel_rfl
theorem co28 : callOk Tryz.prog 28 = true := by kernel_rfl
theorem co29 : callOk Tryz.prog 29 = true := by kernel_rfl
set_option maxRecDepth 100000 in
set_option maxHeartbeats 8000000 in
theorem sEventPut_ok {w : World} {x y u n : Int} {A : Option Addr} {l c : Nat} {Q : Nat → Ev} {SL : SlF} {lo hi : Nat} (hx : NR w lo hi A l (fun i_ => evW (Q i_)) (fun i_ => (Q i_).es) SL) (hxb : l ≤ 1048576) (hxf : evF l Q) (fx_ : fits x) (fy_ : fits y) (fu_ : fits u) : Ct Tryz.prog 5 [.slice A l c, .agg #[.int .u64 (wv3 x), .int .u64 (wv2 x), .int .u64 (wv1 x), .int .u64 (wv0 x), .int .u64 (wv3 y), .int .u64 (wv2 y), .int .u64 (wv1 y), .int .u64 (wv0 y), .int .u64 (wv3 u), .int .u64 (wv2 u), .int .u64 (wv1 u), .int .u64 (wv0 u)], .int .i64 n] w fun v w1 => ∃ A2 c2 S2, v = .tuple #[.slice A2 (putN l Q x y u n) c2, .bool (decide (putS l Q x y u n))] ∧ Ext w w1 ∧ NO w1 w.heap.size w1.heap.size (-1) 56 2 A2 (putN l Q x y u n) (putN l Q x y u n) (fun i_ => evW ((putQ l Q x y u n) i_)) (fun i_ => ((putQ l Q x y u n) i_).es) S2 := by
 refine ct_run (n := 89) Tryz.func5 rfl Tryz.ntmps5 rfl ?_
 have E0 : Below w.heap.size w w := Below.refl _ _
 have hhi := hx.lh
 refine rk_seq <| rk_reg <| lw_e (oe_box (v := .agg (qA x y u)) (cs := (qA x y u)) (T rfl rfl) rfl ?_)
 intro b1 w2 n3
 have N4 : w.heap.size ≤ b1 := n3.eq ▸ E0.size
 have := n3.eq; have := n3.size
 have := Below.fresh n3.ext
 have E5 := below_ext E0 E0.size n3.ext
 refine lw_v (.slice none 0 0) (dv_assign C) <| lw_v (.bool false) (dv_assign C) <| lw_nil <| rk_seq <| rk_seq <| rk_reg <| lw_v (.slice A l c) (dv_move (T rfl rfl)) ?_
 have h6 := (hx.ext n3.ext)
 refine lw_e (oe_callf (vs := [.slice A l c]) co13 (ar1 (T rfl rfl)) (sEventsOk_ok (c := c) h6 (by omega) hxf) ?_)
 rintro _ w7 ⟨rfl, e8⟩
 have := Below.fresh e8
 have E9 := below_ext E5 E5.size e8
 refine lw_v (qd (¬ (evsOk l Q))) (dv_notd (p := evsOk l Q) (T rfl rfl)) <| lw_v (qd (¬ (evsOk l Q))) (dv_move (T rfl rfl)) ?_
 by_cases hb10 : evsOk l Q
 · have hl2_ := evsOk_l hb10; have hev_ := hb10
   have H11 := (e8.blk n3.blk)
   refine lw_vy (.agg (qA x y u)) (d := 14) rfl rfl (congrArg Value.bool (decide_eq_false (not_not_intro hb10))) (dv_loads (l := (qL x y u)) agt35 sz35 (T rfl rfl) H11 rfl) <| lw_ey (d := 14) rfl rfl (congrArg Value.bool (decide_eq_false (not_not_intro hb10))) (oe_callf (vs := [.agg (qA x y u)]) co14 (ar1 (T rfl rfl)) (sPointOk_ok (x := x) (y := y) (u := u) fx_ fy_ fu_ ) ?_)
   rintro _ w12 ⟨rfl, e13⟩
   have := Below.fresh e13
   have E14 := below_ext E9 E9.size e13
   refine lw_vy (qd (¬ (pOk x y u))) (d := 14) rfl rfl (congrArg Value.bool (decide_eq_false (not_not_intro hb10))) (dv_notd (p := pOk x y u) (T rfl rfl)) <| lw_v (qd (¬ (pOk x y u))) (dv_pick_f (T rfl (congrArg Value.bool (decide_eq_false (not_not_intro hb10)))) (T rfl rfl)) <| lw_v (qd (¬ (pOk x y u))) (dv_move (T rfl rfl)) ?_
   by_cases hb15 : pOk x y u
   · refine lw_vy (qi n) (d := 19) rfl rfl (congrArg Value.bool (decide_eq_false (not_not_intro hb15))) (dv_move (T rfl rfl)) <| lw_ey (d := 19) rfl rfl (congrArg Value.bool (decide_eq_false (not_not_intro hb15))) (oe_callf (vs := [qi n, qi 0, qi 39]) co15 (ar3 (T rfl rfl) C C) (l1In_ok (n := n) (lo := 0) (hi := 39)  ) ?_)
     rintro _ w16 ⟨rfl, e17⟩
     have := Below.fresh e17
     have E18 := below_ext E14 E14.size e17
     refine lw_vy (qd (¬ ((0 : Int) ≤ n ∧ n ≤ (39 : Int)))) (d := 19) rfl rfl (congrArg Value.bool (decide_eq_false (not_not_intro hb15))) (dv_notd (p := (0 : Int) ≤ n ∧ n ≤ (39 : Int)) (T rfl rfl)) <| lw_v (qd (¬ ((0 : Int) ≤ n ∧ n ≤ (39 : Int)))) (dv_pick_f (T rfl (congrArg Value.bool (decide_eq_false (not_not_intro hb15)))) (T rfl rfl)) <| lw_nil ?_
     by_cases hb19 : (0 : Int) ≤ n ∧ n ≤ (39 : Int)
     · refine rk_cf (T rfl (congrArg Value.bool (decide_eq_false (not_not_intro hb19)))) <| rk_skip <| rk_seq <| rk_reg <| lw_v (.slice A l c) (dv_move (T rfl rfl)) ?_
       have h20 := (((h6.ext e8).ext e13).ext e17)
       refine lw_e (oe_callf (vs := [.slice A l c]) co16 (ar1 (T rfl rfl)) (l7Copy_ok (c := c) h20 (by omega) hxf (evsOk_ne (by assumption)) (by omega)) ?_)
       rintro _ w26 ⟨_, ct22, St23, rfl, e27, ⟨gt25, rfl⟩, hNt24⟩
       have := Below.fresh e27
       have E28 := below_ext E18 E18.size e27
       refine lw_v (.slice (some ⟨gt25, 0, none⟩) l ct22) (dv_assign (T rfl rfl)) <| qN <| lw_v (qi 0) (dv_assign C) <| lw_nil <| rk_seq <| rk_block ?_
       have H29 := (e27.blk (e17.blk (e13.blk H11)))
       refine rk_loop (fun dm_ fr wl => ∃ (k : Nat), dm_ = l - k ∧ fr 2 = qi n ∧ fr 4 = .pointer (some ⟨b1, 0, none⟩) ∧ fr 6 = .slice none 0 0 ∧ fr 7 = .bool false ∧ fr 8 = .slice (some ⟨gt25, 0, none⟩) l ct22 ∧ fr 9 = qi (k : Int) ∧ Below w.heap.size w wl ∧ wl.heap[b1]? = some (.cells (qA x y u) 35) ∧ NG wl w16.heap.size w26.heap.size 56 2 (some ⟨gt25, 0, none⟩) l ct22 (fun i_ => evW (Q i_)) (fun i_ => (Q i_).es) St23 ∧ (k ≤ l) ∧ (∀ q_, q_ < k → ltQ Q x y u q_)) (l - 0) ⟨0, rfl, rfl, rfl, rfl, rfl, rfl, (vi (by omega)), E28, H29, hNt24, (Nat.zero_le _), (fun q_ h_ => absurd h_ (by omega))⟩ ?_
       intro d34 fr33 w30 hI31 ih32
       obtain ⟨k, hd44, f35, f36, f37, f38, f39, f40, E41, H42, h43, hk_, hlt⟩ := hI31
       refine rk_seq <| rk_seq <| rk_any (fun w => NR w w16.heap.size w26.heap.size (some ⟨gt25, 0, none⟩) l (fun i_ => evW (Q i_)) (fun i_ => (Q i_).es) St23 ∧ w.heap[b1]? = some (.cells (qA x y u) 35)) [] mo ?_
       intro w45 d46
       have := Below.fresh d46.ext
       have E47 := below_ext E41 E41.size d46.ext
       have h48 := (h43.ext d46.ext)
       have H49 := (d46.ext.blk H42)
       refine aw_pure 0 (qi (k : Int)) rfl (by kernel_rfl) .none ⟨h48.nr, H49⟩ (fun _ => dv_move (T rfl f40)) <| aw_pure 1 (.slice (some ⟨gt25, 0, none⟩) l ct22) rfl (by kernel_rfl) .none ⟨h48.nr, H49⟩ (fun _ => dv_move (T rfl f39)) <| aw_pure 2 (qi (l : Int)) rfl (by kernel_rfl) .none ⟨h48.nr, H49⟩ (fun _ => dv_len (ad := some ⟨gt25, 0, none⟩) (l := l) (c := ct22) us29 (T rfl rfl)) <| aw_pure 3 (qd ((k : Int) < (l : Int))) rfl (by kernel_rfl) .none ⟨h48.nr, H49⟩ (fun _ => dv_lss (a := (k : Int)) (b := (l : Int)) (T rfl rfl) (T rfl rfl)) <| aw_pure 4 (qd ((k : Int) < (l : Int))) rfl (by kernel_rfl) .none ⟨h48.nr, H49⟩ (fun _ => dv_move (T rfl rfl)) ?_
       by_cases hb50 : ((k : Int)) < ((l : Int))
       · refine aw_pure 5 (.slice (some ⟨gt25, 0, none⟩) l ct22) rfl (by kernel_rfl) (.yes (d := 30) rfl rfl (qT hb50)) ⟨h48.nr, H49⟩ (fun _ => dv_move (T rfl f39)) <| aw_pure 6 (qi (k : Int)) rfl (by kernel_rfl) (.yes (d := 30) rfl rfl (qT hb50)) ⟨h48.nr, H49⟩ (fun _ => dv_move (T rfl f40)) <| aw_pure 7 (.pointer (some ⟨gt25, 0 + k * 13, none⟩)) rfl (by kernel_rfl) (.yes (d := 30) rfl rfl (qT hb50)) ⟨h48.nr, H49⟩ (fun _ => dv_indexM (g := gt25) (o := 0) (l := l) (c := ct22) (i := k) (j := (k : Int)) (m := 13) us29 sz56 (T rfl rfl) (T rfl rfl) (by omega) (by first | omega | (simp; done) | (simp; omega))) <| aw_pure 8 (.pointer (some ⟨gt25, 0 + (k * 13), none⟩)) rfl (by kernel_rfl) (.yes (d := 30) rfl rfl (qT hb50)) ⟨h48.nr, H49⟩ (fun _ => dv_fieldW (g := gt25) (o := 0) (i := k * 13) fo56_0 (T rfl rfl)) <| aw_load 9 (.agg (qA ((Q k).x) ((Q k).y) ((Q k).u))) rfl (by kernel_rfl) (.yes (d := 30) rfl rfl (qT hb50)) ⟨h48.nr, H49⟩ (fun _ s => dv_loadsR (l := (qL ((Q k).x) ((Q k).y) ((Q k).u))) agt35 sz35 (T rfl rfl) rfl (NR.pt (i := k) s.1 (by first | omega | (simp; done) | (simp; omega)))) <| aw_load 11 (.agg (qA x y u)) rfl (by kernel_rfl) (.yes (d := 30) rfl rfl (qT hb50)) ⟨h48.nr, H49⟩ (fun _ s => dv_loads (l := (qL x y u)) agt35 sz35 (T rfl f36) s.2 rfl) <| aw_one 10 rfl (by kernel_rfl) (.yes (d := 30) rfl rfl (qT hb50)) (oe_callf (vs := [.agg (qA ((Q k).x) ((Q k).y) ((Q k).u))]) co18 (ar1 (T rfl rfl)) (l3Of_ok (evF.x hxf (i := k) (by omega)) (evF.y hxf (i := k) (by omega)) (evF.u hxf (i := k) (by omega))  ) ?_)
         rintro _ w66 ⟨nr51, A52, n53, c54, nr55, A56, n57, c58, nr59, A60, n61, c62, rfl, e67, h63, h64, h65⟩
         have := Below.fresh e67
         have E68 := below_ext E47 E47.size e67
         have lh63 := Num.len (by decide) h63
         have lh64 := Num.len (by decide) h64
         have lh65 := Num.len (by decide) h65
         have h69 := (h48.ext e67)
         have H70 := (e67.blk H49)
         refine ⟨.inr ⟨h69.nr, H70⟩, ?_⟩
         refine aw_one 12 rfl (by kernel_rfl) (.yes (d := 30) rfl rfl (qT hb50)) (oe_callf (vs := [.agg (qA x y u)]) co18 (ar1 (T rfl rfl)) (l3Of_ok fx_ fy_ fu_  ) ?_)
         rintro _ w86 ⟨nr71, A72, n73, c74, nr75, A76, n77, c78, nr79, A80, n81, c82, rfl, e87, h83, h84, h85⟩
         have := Below.fresh e87
         have E88 := below_ext E68 E68.size e87
         have lh83 := Num.len (by decide) h83
         have lh84 := Num.len (by decide) h84
         have lh85 := Num.len (by decide) h85
         have h89 := (h69.ext e87)
         have H90 := (e87.blk H70)
         refine ⟨.inr ⟨h89.nr, H90⟩, ?_⟩
         have h91 := (h63.ext e87)
         have h92 := (h64.ext e87)
         have h93 := (h65.ext e87)
         refine aw_one 13 rfl (by kernel_rfl) (.yes (d := 30) rfl rfl (qT hb50)) (oe_callf (vs := [.agg #[.bool nr51, .slice A52 n53 c54, .bool nr55, .slice A56 n57 c58, .bool nr59, .slice A60 n61 c62], .agg #[.bool nr71, .slice A72 n73 c74, .bool nr75, .slice A76 n77 c78, .bool nr79, .slice A80 n81 c82]]) co17 (ar2 (T rfl rfl) (T rfl rfl)) (l3Cmp_ok h91 h92 h93 h83 h84 h85 (by first | decide | omega) (by first | decide | omega) (by first | decide | omega) (by first | decide | omega) (by first | decide | omega) (by first | decide | omega) ) ?_)
         rintro _ w94 ⟨rfl, e95⟩
         have := Below.fresh e95
         have E96 := below_ext E88 E88.size e95
         have h97 := (h89.ext e95)
         have H98 := (e95.blk H90)
         refine ⟨.inr ⟨h97.nr, H98⟩, ?_⟩
         refine aw_pure 14 (qd ((pc (((Q k).x)) (((Q k).y)) (((Q k).u)) x y u) < 0)) rfl (by kernel_rfl) (.yes (d := 30) rfl rfl (qT hb50)) ⟨h97.nr, H98⟩ (fun _ => dv_lss (a := pc (((Q k).x)) (((Q k).y)) (((Q k).u)) x y u) (b := 0) (T rfl rfl) C) <| aw_pure 15 (qd ((pc (((Q k).x)) (((Q k).y)) (((Q k).u)) x y u) < 0)) rfl (by kernel_rfl) .none ⟨h97.nr, H98⟩ (fun _ => dv_pick_t (T rfl (qT hb50)) (T rfl rfl)) <| aw_done (by kernel_rfl) ?_
         by_cases hb99 : (pc (((Q k).x)) (((Q k).y)) (((Q k).u)) x y u) < 0
         · refine rk_ct (T rfl (qT hb99)) <| rk_skip <| rk_block <| rk_reg <| lw_v (qi (k : Int)) (dv_move (T rfl f40)) <| lw_v (qi ((k : Int) + 1)) (dv_add (a := (k : Int)) (b := 1) (z := (k : Int) + 1) (T rfl rfl) C (wr_i64 (by omega) (by omega))) <| lw_v (qi ((k : Int) + 1)) (dv_assign (T rfl rfl)) <| lw_nil <| rk_inBlock ?_
           exact ih32 (l - (k + 1)) _ _ (by rw [hd44]; omega) ⟨(k + 1), rfl, f35, f36, f37, f38, f39, (vi (by omega)), E96, H98, h97, (by omega), (all_step hlt (by first | assumption | omega))⟩
         · refine rk_cf (T rfl (qF hb99)) <| rk_exit rfl <| rk_seq <| rk_seq ?_
           have hpi : pidx l Q x y u = k := pidx_eq hk_ hlt (by first | exact .inl (by omega) | exact .inr (by first | assumption | omega))
           have hlh_ := h97.lh
           refine rk_any (fun w => NR w w16.heap.size w26.heap.size (some ⟨gt25, 0, none⟩) l (fun i_ => evW (Q i_)) (fun i_ => (Q i_).es) St23 ∧ w.heap[b1]? = some (.cells (qA x y u) 35)) [] mo ?_
           intro w100 d101
           have := Below.fresh d101.ext
           have E102 := below_ext E96 E96.size d101.ext
           have h103 := (h97.ext d101.ext)
           have H104 := (d101.ext.blk H98)
           refine aw_pure 0 (qi (k : Int)) rfl (by kernel_rfl) .none ⟨h103.nr, H104⟩ (fun _ => dv_move (T rfl f40)) <| aw_pure 1 (.slice (some ⟨gt25, 0, none⟩) l ct22) rfl (by kernel_rfl) .none ⟨h103.nr, H104⟩ (fun _ => dv_move (T rfl f39)) <| aw_pure 2 (qi (l : Int)) rfl (by kernel_rfl) .none ⟨h103.nr, H104⟩ (fun _ => dv_len (ad := some ⟨gt25, 0, none⟩) (l := l) (c := ct22) us29 (T rfl rfl)) <| aw_pure 3 (qd ((k : Int) < (l : Int))) rfl (by kernel_rfl) .none ⟨h103.nr, H104⟩ (fun _ => dv_lss (a := (k : Int)) (b := (l : Int)) (T rfl rfl) (T rfl rfl)) <| aw_pure 4 (qd ((k : Int) < (l : Int))) rfl (by kernel_rfl) .none ⟨h103.nr, H104⟩ (fun _ => dv_move (T rfl rfl)) <| aw_pure 5 (.slice (some ⟨gt25, 0, none⟩) l ct22) rfl (by kernel_rfl) (.yes (d := 48) rfl rfl (qT hb50)) ⟨h103.nr, H104⟩ (fun _ => dv_move (T rfl f39)) <| aw_pure 6 (qi (k : Int)) rfl (by kernel_rfl) (.yes (d := 48) rfl rfl (qT hb50)) ⟨h103.nr, H104⟩ (fun _ => dv_move (T rfl f40)) <| aw_pure 7 (.pointer (some ⟨gt25, 0 + k * 13, none⟩)) rfl (by kernel_rfl) (.yes (d := 48) rfl rfl (qT hb50)) ⟨h103.nr, H104⟩ (fun _ => dv_indexM (g := gt25) (o := 0) (l := l) (c := ct22) (i := k) (j := (k : Int)) (m := 13) us29 sz56 (T rfl rfl) (T rfl rfl) (by omega) (by first | omega | (simp; done) | (simp; omega))) <| aw_pure 8 (.pointer (some ⟨gt25, 0 + (k * 13), none⟩)) rfl (by kernel_rfl) (.yes (d := 48) rfl rfl (qT hb50)) ⟨h103.nr, H104⟩ (fun _ => dv_fieldW (g := gt25) (o := 0) (i := k * 13) fo56_0 (T rfl rfl)) <| aw_load 9 (.agg (qA ((Q k).x) ((Q k).y) ((Q k).u))) rfl (by kernel_rfl) (.yes (d := 48) rfl rfl (qT hb50)) ⟨h103.nr, H104⟩ (fun _ s => dv_loadsR (l := (qL ((Q k).x) ((Q k).y) ((Q k).u))) agt35 sz35 (T rfl rfl) rfl (NR.pt (i := k) s.1 (by first | omega | (simp; done) | (simp; omega)))) <| aw_load 10 (.agg (qA x y u)) rfl (by kernel_rfl) (.yes (d := 48) rfl rfl (qT hb50)) ⟨h103.nr, H104⟩ (fun _ s => dv_loads (l := (qL x y u)) agt35 sz35 (T rfl f36) s.2 rfl) ?_
           refine aw_pure 11 (qd (([wv3 ((Q k).x), wv2 ((Q k).x), wv1 ((Q k).x), wv0 ((Q k).x), wv3 ((Q k).y), wv2 ((Q k).y), wv1 ((Q k).y), wv0 ((Q k).y), wv3 ((Q k).u), wv2 ((Q k).u), wv1 ((Q k).u), wv0 ((Q k).u)] : List Int) = [wv3 x, wv2 x, wv1 x, wv0 x, wv3 y, wv2 y, wv1 y, wv0 y, wv3 u, wv2 u, wv1 u, wv0 u])) rfl (by kernel_rfl) (.yes (d := 48) rfl rfl (qT hb50)) ⟨h103.nr, H104⟩ (fun _ => dv_eqln (k := .u64) (la := [wv3 ((Q k).x), wv2 ((Q k).x), wv1 ((Q k).x), wv0 ((Q k).x), wv3 ((Q k).y), wv2 ((Q k).y), wv1 ((Q k).y), wv0 ((Q k).y), wv3 ((Q k).u), wv2 ((Q k).u), wv1 ((Q k).u), wv0 ((Q k).u)]) (lb := [wv3 x, wv2 x, wv1 x, wv0 x, wv3 y, wv2 y, wv1 y, wv0 y, wv3 u, wv2 u, wv1 u, wv0 u]) fl35 eg35 (T rfl rfl) (T rfl rfl) rfl rfl) <| aw_pure 12 (qd (([wv3 ((Q k).x), wv2 ((Q k).x), wv1 ((Q k).x), wv0 ((Q k).x), wv3 ((Q k).y), wv2 ((Q k).y), wv1 ((Q k).y), wv0 ((Q k).y), wv3 ((Q k).u), wv2 ((Q k).u), wv1 ((Q k).u), wv0 ((Q k).u)] : List Int) = [wv3 x, wv2 x, wv1 x, wv0 x, wv3 y, wv2 y, wv1 y, wv0 y, wv3 u, wv2 u, wv1 u, wv0 u])) rfl (by kernel_rfl) .none ⟨h103.nr, H104⟩ (fun _ => dv_pick_t (T rfl (qT hb50)) (T rfl rfl)) <| aw_done (by kernel_rfl) ?_
           by_cases hb105 : ([wv3 ((Q k).x), wv2 ((Q k).x), wv1 ((Q k).x), wv0 ((Q k).x), wv3 ((Q k).y), wv2 ((Q k).y), wv1 ((Q k).y), wv0 ((Q k).y), wv3 ((Q k).u), wv2 ((Q k).u), wv1 ((Q k).u), wv0 ((Q k).u)] : List Int) = [wv3 x, wv2 x, wv1 x, wv0 x, wv3 y, wv2 y, wv1 y, wv0 y, wv3 u, wv2 u, wv1 u, wv0 u]
           · have hz106 := (wl3_eq (evF.x hxf (i := k) (by omega)) (evF.y hxf (i := k) (by omega)) (evF.u hxf (i := k) (by omega)) fx_ fy_ fu_).1 hb105
             refine rk_ct (T rfl (qT hb105)) <| rk_seq ?_
             obtain ⟨As107, hAs109⟩ : ∃ q_ : Option Addr, q_ = (St23 k).1 := ⟨_, rfl⟩
             obtain ⟨cs108, hcs110⟩ : ∃ q_ : Nat, q_ = (St23 k).2 := ⟨_, rfl⟩
             have hrs_ := (hev_.2 k (by omega)).2.2.1; have hes_ := rise_len hrs_
             refine rk_reg <| lw_v (.slice (some ⟨gt25, 0, none⟩) l ct22) (dv_move (T rfl f39)) <| lw_v (qi (k : Int)) (dv_move (T rfl f40)) <| lw_v (.slice (some ⟨gt25, 0, none⟩) l ct22) (dv_move (T rfl f39)) <| lw_v (qi (k : Int)) (dv_move (T rfl f40)) <| lw_v (.pointer (some ⟨gt25, 0 + k * 13, none⟩)) (dv_indexM (g := gt25) (o := 0) (l := l) (c := ct22) (i := k) (j := (k : Int)) (m := 13) us29 sz56 (T rfl rfl) (T rfl rfl) (by omega) (by first | omega | (simp; done) | (simp; omega))) <| lw_v (.pointer (some ⟨gt25, 0 + (k * 13 + 12), none⟩)) (dv_fieldW (g := gt25) (o := 0) (i := k * 13) fo56_1 (T rfl rfl)) <| lw_v (.slice As107 ((Q k).es.length) cs108) (dv_load agt41 (T rfl rfl) (NR.slA (i := k) h103.nr (by first | omega | (simp; done) | (simp; omega)) hAs109 hcs110)) <| lw_v (qi n) (dv_move (T rfl f35)) <| lw_e (oe_callf (vs := [.slice As107 ((Q k).es.length) cs108, qi n]) co19 (ar2 (T rfl rfl) (T rfl rfl)) (l7With_ok (x := n) (c := cs108) (NR.rdA (i := k) h103.nr (by first | omega | (simp; done) | (simp; omega)) hAs109) (by first | rfl | omega) (by omega)) ?_)
             rintro _ w114 ⟨Aw111, cw112, rfl, e115, hOw113⟩
             have := Below.fresh e115
             have E116 := below_ext E102 E102.size e115
             refine lw_v (.pointer (some ⟨gt25, 0 + k * 13, none⟩)) (dv_indexM (g := gt25) (o := 0) (l := l) (c := ct22) (i := k) (j := (k : Int)) (m := 13) us29 sz56 (T rfl rfl) (T rfl rfl) (by omega) (by first | omega | (simp; done) | (simp; omega))) <| lw_v (.pointer (some ⟨gt25, 0 + (k * 13 + 12), none⟩)) (dv_fieldW (g := gt25) (o := 0) (i := k * 13) fo56_1 (T rfl rfl)) ?_
             have h117 := (h103.ext e115)
             refine lw_e (oe_storeI (lo := w16.heap.size) (hi := w114.heap.size) (g := gt25) (i := k) (L := (withL ((Q k).es) n)) sz41 (T rfl rfl) (T rfl rfl) (HOL.fresh (i := k) h117 hOw113 (by omega)) (hOw113.mono (by omega)) rfl (by decide) (by omega) ?_)
             intro w118 hN119 x120 hs121
             have E122 := below_bl E116 E18.size x120
             refine qN <| lw_v (.slice (some ⟨gt25, 0, none⟩) l ct22) (dv_move (T rfl f39)) <| lw_v (.slice (some ⟨gt25, 0, none⟩) l ct22) (dv_assign (T rfl rfl)) <| lw_v (.bool true) (dv_assign C) <| lw_nil <| rk_ret Tryz.func5 (v := .tuple #[.slice (some ⟨gt25, 0, none⟩) l ct22, .bool true]) (res2 Tryz.results5 (rv_tmp rfl rfl) (rv_tmp rfl rfl)) ⟨_, rfl, ?_⟩
             have hfd : fdQ l Q x y u := by
              unfold fdQ; rw [hpi]; exact ⟨by omega, (wl12_eq (evF.x hxf (i := k) (by omega)) (evF.y hxf (i := k) (by omega)) (evF.u hxf (i := k) (by omega)) fx_ fy_ fu_).1 (by first | assumption | exact Decidable.not_not.1 (by assumption))⟩
             have hS : putS l Q x y u n := ⟨⟨by assumption, by assumption, by assumption⟩, .inl hfd⟩
             obtain ⟨e1_, e2_⟩ := putE_d (n := n) hfd hpi
             refine ⟨some ⟨gt25, 0, none⟩, ct22, ((updA St23 k (Aw111, cw112))), ?_⟩
             rw [putN_d hS hfd, show decide (putS l Q x y u n) = true from decide_eq_true hS]
             exact ⟨rfl, E122, (hN119.no.lo_le (by omega)).congr (fun i_ _ j_ _ => congrFun (e1_ i_) j_) (fun i_ _ => (e2_ i_).trans (by unfold updA; rfl))⟩
           · have hz123 := mt (wl3_eq (evF.x hxf (i := k) (by omega)) (evF.y hxf (i := k) (by omega)) (evF.u hxf (i := k) (by omega)) fx_ fy_ fu_).2 hb105
             refine rk_cf (T rfl (qF hb105)) <| rk_skip <| rk_seq <| rk_seq ?_
             have hnf : ¬ fdQ l Q x y u := fun h_ => by
              have h1_ := h_.1; have h2_ := h_.2; rw [hpi] at h1_ h2_
              first | omega | exact absurd ((wl12_eq (evF.x hxf (i := k) (by omega)) (evF.y hxf (i := k) (by omega)) (evF.u hxf (i := k) (by omega)) fx_ fy_ fu_).2 h2_) (by assumption)
             refine rk_reg <| lw_v (.slice (some ⟨gt25, 0, none⟩) l ct22) (dv_move (T rfl f39)) <| lw_v (qi (l : Int)) (dv_len (ad := some ⟨gt25, 0, none⟩) (l := l) (c := ct22) us29 (T rfl rfl)) <| lw_v (qd (200 ≤ (l : Int))) (dv_geq (a := (l : Int)) (b := 200) (T rfl rfl) C) <| lw_nil ?_
             by_cases hb124 : 200 ≤ ((l : Int))
             · refine rk_ct (T rfl (qT hb124)) <| rk_seq <| rk_reg <| lw_v (.slice none 0 0) (dv_assign C) <| lw_v (.bool false) (dv_assign C) <| lw_nil <| rk_ret Tryz.func5 (v := .tuple #[.slice none 0 0, .bool false]) (res2 Tryz.results5 (rv_tmp rfl rfl) (rv_tmp rfl rfl)) ⟨_, rfl, ?_⟩
               have hnf : ¬ fdQ l Q x y u := fun h_ => by
                have h1_ := h_.1; have h2_ := h_.2; rw [hpi] at h1_ h2_
                first | omega | exact absurd ((wl12_eq (evF.x hxf (i := k) (by omega)) (evF.y hxf (i := k) (by omega)) (evF.u hxf (i := k) (by omega)) fx_ fy_ fu_).2 h2_) (by assumption)
               have hS : ¬ putS l Q x y u n := fun h_ => by first | exact absurd h_.1.1 (by assumption) | exact absurd h_.1.2.1 (by assumption) | exact absurd h_.1.2.2 (by assumption) | exact h_.2.elim hnf (fun h_ => by omega)
               refine ⟨none, 0, fun _ => (none, 0), ?_⟩
               rw [putN_f hS, show decide (putS l Q x y u n) = false from decide_eq_false hS]
               exact ⟨rfl, E102, NO.nil E102.size (Nat.le_refl _)⟩
             · refine rk_cf (T rfl (qF hb124)) <| rk_skip <| rk_seq ?_
               obtain ⟨vs, hC, hR⟩ := NG.cel h103
               have hI := NG.inn h103; have := hI.lh; have hRl := hR.lt _ _ rfl; have hlen_ := hR.len; have hlc_ := NG.sl h103
               refine rk_reg <| lw_e (oe_buildSlice0 us29 sz56 ?_)
               intro b125 w126 n127
               have N129 : w.heap.size ≤ b125 := n127.eq ▸ E102.size
               have := n127.eq; have := n127.size
               have := Below.fresh n127.ext
               have E130 := below_ext E102 E102.size n127.ext
               have hR128 := OwC.made n127
               refine lw_v (.slice (some ⟨gt25, 0, none⟩) l ct22) (dv_move (T rfl f39)) <| lw_v (qi (k : Int)) (dv_move (T rfl f40)) <| lw_v (.slice (some ⟨gt25, 0, none⟩) k ct22) (dv_sliceHi (A := some ⟨gt25, 0, none⟩) (l := l) (c := ct22) (i := k) (j := (k : Int)) us29 sz56 (T rfl rfl) (T rfl rfl) (by omega) (by omega)) ?_
               have h131 := (hR.ext n127.ext)
               refine lw_e (oe_appendC (base := b125) (l := 0) (m := k) (us := []) (vs := (vs.take (k * 13))) us29 in56 rfl (T rfl rfl) (T rfl rfl) hR128 ((OwC.cel0 h131).take (k * 13)) (by simp only [List.length_take, List.length_drop, OwC.len h131]; omega) (fun u_ h_ => hC.one u_ (List.mem_of_mem_take h_)) (by omega) (by omega) ?_)
               intro Ad132 c133 w134 hR135 x136 bt137
               have E138 := below_bl E130 N129 x136
               have := x136.size
               refine lw_v (.slice Ad132 (0 + k) c133) (dv_assign (T rfl rfl)) <| qN <| lw_v (.slice Ad132 (0 + k) c133) (dv_move (T rfl rfl)) ?_
               have H139 := (bl_blk x136 (n127.ext.blk H104) (by omega))
               refine lw_v (.agg (qA x y u)) (dv_loads (l := (qL x y u)) agt35 sz35 (T rfl f36) H139 rfl) <| lw_v (qi n) (dv_move (T rfl f35)) <| lw_e (oe_buildSlice (pv := [(0, qi n)]) (init := [qi 0]) (l := [qi n]) us41 sz2 rfl rfl zc2 (by kernel_rfl) ⟨rfl, (T rfl rfl), trivial⟩ rfl ?_)
               intro b140 w141 n142
               have N143 : w.heap.size ≤ b140 := n142.eq ▸ E138.size
               have : b1 < b140 := n142.eq ▸ lt_of_blk H139
               have := n142.eq; have := n142.size
               have := Below.fresh n142.ext
               have E144 := below_ext E138 E138.size n142.ext
               refine lw_v (.agg #[qu (wv3 x), qu (wv2 x), qu (wv1 x), qu (wv0 x), qu (wv3 y), qu (wv2 y), qu (wv1 y), qu (wv0 y), qu (wv3 u), qu (wv2 u), qu (wv1 u), qu (wv0 u), .slice (some ⟨b140, 0, none⟩) 1 1]) (dv_build (pv := [(0, .agg (qA x y u)), (1, .slice (some ⟨b140, 0, none⟩) 1 1)]) (l := [qu (wv3 x), qu (wv2 x), qu (wv1 x), qu (wv0 x), qu (wv3 y), qu (wv2 y), qu (wv1 y), qu (wv0 y), qu (wv3 u), qu (wv2 u), qu (wv1 u), qu (wv0 u), .slice (some ⟨b140, 0, none⟩) 1 1]) zc56 pl56 ⟨rfl, (T rfl rfl), ⟨rfl, (T rfl rfl), trivial⟩⟩ rfl) <| lw_e (oe_buildSlice (pv := [(0, .agg #[qu (wv3 x), qu (wv2 x), qu (wv1 x), qu (wv0 x), qu (wv3 y), qu (wv2 y), qu (wv1 y), qu (wv0 y), qu (wv3 u), qu (wv2 u), qu (wv1 u), qu (wv0 u), .slice (some ⟨b140, 0, none⟩) 1 1])]) (init := [qu 0, qu 0, qu 0, qu 0, qu 0, qu 0, qu 0, qu 0, qu 0, qu 0, qu 0, qu 0, .slice none 0 0]) (l := [qu (wv3 x), qu (wv2 x), qu (wv1 x), qu (wv0 x), qu (wv3 y), qu (wv2 y), qu (wv1 y), qu (wv0 y), qu (wv3 u), qu (wv2 u), qu (wv1 u), qu (wv0 u), .slice (some ⟨b140, 0, none⟩) 1 1]) us29 sz56 rfl rfl zc56 (by kernel_rfl) ⟨rfl, (T rfl rfl), trivial⟩ rfl ?_)
               intro b145 w146 n147
               have N148 : w.heap.size ≤ b145 := n147.eq ▸ E144.size
               have : b140 < b145 := n147.eq ▸ lt_of_blk n142.blk
               have := n147.eq; have := n147.size
               have := Below.fresh n147.ext
               have E149 := below_ext E144 E144.size n147.ext
               have h150 := ((hR135.ext n142.ext).ext n147.ext)
               have H152 := (n147.ext.blk n142.blk)
               have hO151 := Ow.full (w := w) (k := .i64) (L := [n]) H152 (by simp)
               refine lw_e (oe_appendC (base := b125) (l := 0 + k) (m := 1) (us := ([] ++ (vs.take (k * 13)))) (vs := (evC (evW ⟨x, y, u, [n]⟩) (some ⟨b140, 0, none⟩) [n].length 1)) us29 in56 rfl (T rfl rfl) (T rfl rfl) h150 (CelA.one (vs := (evC (evW ⟨x, y, u, [n]⟩) (some ⟨b140, 0, none⟩) [n].length 1)) n147.blk) rfl evC_one (by omega) (by omega) ?_)
               intro Ad153 c154 w155 hR156 x157 bt158
               have E159 := below_bl E149 N129 x157
               have := x157.size
               refine lw_v (.slice Ad153 ((0 + k) + 1) c154) (dv_assign (T rfl rfl)) <| qN <| lw_v (.slice Ad153 ((0 + k) + 1) c154) (dv_move (T rfl rfl)) <| lw_v (.slice (some ⟨gt25, 0, none⟩) l ct22) (dv_move (T rfl f39)) <| lw_v (qi (k : Int)) (dv_move (T rfl f40)) <| lw_v (.slice ((slA (some ⟨gt25, 0, none⟩) k ct22)) (l - k) (ct22 - k)) (dv_sliceLo (A := some ⟨gt25, 0, none⟩) (l := l) (c := ct22) (i := k) (j := (k : Int)) us29 sz56 (T rfl rfl) (T rfl rfl) (by omega) (by omega)) ?_
               have h160 := ((((h131.bl x136 (fun g_ o_ h_ => by injection h_ with h_; injection h_ with h_ _ _; omega)).ext n142.ext).ext n147.ext).bl x157 (fun g_ o_ h_ => by injection h_ with h_; injection h_ with h_ _ _; omega))
               refine lw_e (oe_appendC (base := b125) (l := (0 + k) + 1) (m := l - k) (us := (([] ++ (vs.take (k * 13))) ++ (evC (evW ⟨x, y, u, [n]⟩) (some ⟨b140, 0, none⟩) [n].length 1))) (vs := (vs.drop (k * 13))) us29 in56 rfl (T rfl rfl) (T rfl rfl) hR156 (OwC.cel h160 (i := k) (by omega)) (by simp only [List.length_take, List.length_drop, OwC.len h160]; omega) (fun u_ h_ => hC.one u_ (List.mem_of_mem_drop h_)) (by omega) (by omega) ?_)
               intro Ad161 c162 w163 hR164 x165 bt166
               have E167 := below_bl E159 N129 x165
               have := x165.size
               refine lw_v (.slice Ad161 (((0 + k) + 1) + (l - k)) c162) (dv_assign (T rfl rfl)) <| lw_v (.bool true) (dv_assign C) <| lw_nil <| rk_ret Tryz.func5 (v := .tuple #[.slice Ad161 (((0 + k) + 1) + (l - k)) c162, .bool true]) (res2 Tryz.results5 (rv_tmp rfl rfl) (rv_tmp rfl rfl)) ⟨_, rfl, ?_⟩
               have h168 := ((((((hI.ext n127.ext).bl x136 (by omega)).ext n142.ext).ext n147.ext).bl x157 (by omega)).bl x165 (by omega))
               have h169 := ((hO151.btO bt158 x157.size (by decide)).btO bt166 x165.size (by decide))
               have hS : putS l Q x y u n := ⟨⟨by assumption, by assumption, by assumption⟩, .inr (by omega)⟩
               have hl_ : ((0 + k) + 1) + (l - k) = l + 1 := by omega
               rw [hl_] at hR164
               have hG := NG.mk' (h168.ins (i := k) (by omega) h169 (by omega)) (hC.ins (i := k) (ws := evW ⟨x, y, u, [n]⟩) (A1 := some ⟨b140, 0, none⟩) (c1 := 1) (L1 := [n]) (by omega)) (OwC.eqv hR164 (by rw [List.nil_append])) (by omega)
               obtain ⟨e1_, e2_⟩ := putE_m (n := n) hnf hpi
               refine ⟨Ad161, c162, insF St23 k (some ⟨b140, 0, none⟩, 1), ?_⟩
               rw [putN_n hS hnf, show decide (putS l Q x y u n) = true from decide_eq_true hS, hl_]
               exact ⟨rfl, E167, (hG.no.lo_le (by omega)).congr (fun i_ _ j_ _ => congrFun (e1_ i_) j_) (fun i_ _ => e2_ i_)⟩
       · refine aw_no 5 rfl (by kernel_rfl) (d := 30) rfl rfl (qF hb50) ⟨h48.nr, H49⟩ <| aw_no 6 rfl (by kernel_rfl) (d := 30) rfl rfl (qF hb50) ⟨h48.nr, H49⟩ <| aw_no 7 rfl (by kernel_rfl) (d := 30) rfl rfl (qF hb50) ⟨h48.nr, H49⟩ <| aw_no 8 rfl (by kernel_rfl) (d := 30) rfl rfl (qF hb50) ⟨h48.nr, H49⟩ <| aw_no 9 rfl (by kernel_rfl) (d := 30) rfl rfl (qF hb50) ⟨h48.nr, H49⟩ <| aw_no 10 rfl (by kernel_rfl) (d := 30) rfl rfl (qF hb50) ⟨h48.nr, H49⟩ <| aw_no 11 rfl (by kernel_rfl) (d := 30) rfl rfl (qF hb50) ⟨h48.nr, H49⟩ <| aw_no 12 rfl (by kernel_rfl) (d := 30) rfl rfl (qF hb50) ⟨h48.nr, H49⟩ <| aw_no 13 rfl (by kernel_rfl) (d := 30) rfl rfl (qF hb50) ⟨h48.nr, H49⟩ <| aw_no 14 rfl (by kernel_rfl) (d := 30) rfl rfl (qF hb50) ⟨h48.nr, H49⟩ <| aw_pure 15 (.bool false) rfl (by kernel_rfl) .none ⟨h48.nr, H49⟩ (fun _ => dv_pick_f (T rfl (qF hb50)) C) ?_
         refine aw_done (by kernel_rfl) <| rk_cf (T rfl rfl) <| rk_exit rfl <| rk_seq <| rk_seq ?_
         have hpi : pidx l Q x y u = k := pidx_eq hk_ hlt (by first | exact .inl (by omega) | exact .inr (by first | assumption | omega))
         have hlh_ := h48.lh
         refine rk_any (fun w => NR w w16.heap.size w26.heap.size (some ⟨gt25, 0, none⟩) l (fun i_ => evW (Q i_)) (fun i_ => (Q i_).es) St23 ∧ w.heap[b1]? = some (.cells (qA x y u) 35)) [] mo ?_
         intro w170 d171
         have := Below.fresh d171.ext
         have E172 := below_ext E47 E47.size d171.ext
         have h173 := (h48.ext d171.ext)
         have H174 := (d171.ext.blk H49)
         refine aw_pure 0 (qi (k : Int)) rfl (by kernel_rfl) .none ⟨h173.nr, H174⟩ (fun _ => dv_move (T rfl f40)) <| aw_pure 1 (.slice (some ⟨gt25, 0, none⟩) l ct22) rfl (by kernel_rfl) .none ⟨h173.nr, H174⟩ (fun _ => dv_move (T rfl f39)) <| aw_pure 2 (qi (l : Int)) rfl (by kernel_rfl) .none ⟨h173.nr, H174⟩ (fun _ => dv_len (ad := some ⟨gt25, 0, none⟩) (l := l) (c := ct22) us29 (T rfl rfl)) <| aw_pure 3 (qd ((k : Int) < (l : Int))) rfl (by kernel_rfl) .none ⟨h173.nr, H174⟩ (fun _ => dv_lss (a := (k : Int)) (b := (l : Int)) (T rfl rfl) (T rfl rfl)) <| aw_pure 4 (qd ((k : Int) < (l : Int))) rfl (by kernel_rfl) .none ⟨h173.nr, H174⟩ (fun _ => dv_move (T rfl rfl)) <| aw_no 5 rfl (by kernel_rfl) (d := 48) rfl rfl (qF hb50) ⟨h173.nr, H174⟩ <| aw_no 6 rfl (by kernel_rfl) (d := 48) rfl rfl (qF hb50) ⟨h173.nr, H174⟩ <| aw_no 7 rfl (by kernel_rfl) (d := 48) rfl rfl (qF hb50) ⟨h173.nr, H174⟩ <| aw_no 8 rfl (by kernel_rfl) (d := 48) rfl rfl (qF hb50) ⟨h173.nr, H174⟩ <| aw_no 9 rfl (by kernel_rfl) (d := 48) rfl rfl (qF hb50) ⟨h173.nr, H174⟩ <| aw_no 10 rfl (by kernel_rfl) (d := 48) rfl rfl (qF hb50) ⟨h173.nr, H174⟩ ?_
         refine aw_no 11 rfl (by kernel_rfl) (d := 48) rfl rfl (qF hb50) ⟨h173.nr, H174⟩ <| aw_pure 12 (.bool false) rfl (by kernel_rfl) .none ⟨h173.nr, H174⟩ (fun _ => dv_pick_f (T rfl (qF hb50)) C) <| aw_done (by kernel_rfl) <| rk_cf (T rfl rfl) <| rk_skip <| rk_seq <| rk_seq ?_
         have hnf : ¬ fdQ l Q x y u := fun h_ => by
          have h1_ := h_.1; have h2_ := h_.2; rw [hpi] at h1_ h2_
          first | omega | exact absurd ((wl12_eq (evF.x hxf (i := k) (by omega)) (evF.y hxf (i := k) (by omega)) (evF.u hxf (i := k) (by omega)) fx_ fy_ fu_).2 h2_) (by assumption)
         refine rk_reg <| lw_v (.slice (some ⟨gt25, 0, none⟩) l ct22) (dv_move (T rfl f39)) <| lw_v (qi (l : Int)) (dv_len (ad := some ⟨gt25, 0, none⟩) (l := l) (c := ct22) us29 (T rfl rfl)) <| lw_v (qd (200 ≤ (l : Int))) (dv_geq (a := (l : Int)) (b := 200) (T rfl rfl) C) <| lw_nil ?_
         by_cases hb175 : 200 ≤ ((l : Int))
         · refine rk_ct (T rfl (qT hb175)) <| rk_seq <| rk_reg <| lw_v (.slice none 0 0) (dv_assign C) <| lw_v (.bool false) (dv_assign C) <| lw_nil <| rk_ret Tryz.func5 (v := .tuple #[.slice none 0 0, .bool false]) (res2 Tryz.results5 (rv_tmp rfl rfl) (rv_tmp rfl rfl)) ⟨_, rfl, ?_⟩
           have hnf : ¬ fdQ l Q x y u := fun h_ => by
            have h1_ := h_.1; have h2_ := h_.2; rw [hpi] at h1_ h2_
            first | omega | exact absurd ((wl12_eq (evF.x hxf (i := k) (by omega)) (evF.y hxf (i := k) (by omega)) (evF.u hxf (i := k) (by omega)) fx_ fy_ fu_).2 h2_) (by assumption)
           have hS : ¬ putS l Q x y u n := fun h_ => by first | exact absurd h_.1.1 (by assumption) | exact absurd h_.1.2.1 (by assumption) | exact absurd h_.1.2.2 (by assumption) | exact h_.2.elim hnf (fun h_ => by omega)
           refine ⟨none, 0, fun _ => (none, 0), ?_⟩
           rw [putN_f hS, show decide (putS l Q x y u n) = false from decide_eq_false hS]
           exact ⟨rfl, E172, NO.nil E172.size (Nat.le_refl _)⟩
         · refine rk_cf (T rfl (qF hb175)) <| rk_skip <| rk_seq ?_
           obtain ⟨vs, hC, hR⟩ := NG.cel h173
           have hI := NG.inn h173; have := hI.lh; have hRl := hR.lt _ _ rfl; have hlen_ := hR.len; have hlc_ := NG.sl h173
           refine rk_reg <| lw_e (oe_buildSlice0 us29 sz56 ?_)
           intro b176 w177 n178
           have N180 : w.heap.size ≤ b176 := n178.eq ▸ E172.size
           have := n178.eq; have := n178.size
           have := Below.fresh n178.ext
           have E181 := below_ext E172 E172.size n178.ext
           have hR179 := OwC.made n178
           refine lw_v (.slice (some ⟨gt25, 0, none⟩) l ct22) (dv_move (T rfl f39)) <| lw_v (qi (k : Int)) (dv_move (T rfl f40)) <| lw_v (.slice (some ⟨gt25, 0, none⟩) k ct22) (dv_sliceHi (A := some ⟨gt25, 0, none⟩) (l := l) (c := ct22) (i := k) (j := (k : Int)) us29 sz56 (T rfl rfl) (T rfl rfl) (by omega) (by omega)) ?_
           have h182 := (hR.ext n178.ext)
           refine lw_e (oe_appendC (base := b176) (l := 0) (m := k) (us := []) (vs := (vs.take (k * 13))) us29 in56 rfl (T rfl rfl) (T rfl rfl) hR179 ((OwC.cel0 h182).take (k * 13)) (by simp only [List.length_take, List.length_drop, OwC.len h182]; omega) (fun u_ h_ => hC.one u_ (List.mem_of_mem_take h_)) (by omega) (by omega) ?_)
           intro Ad183 c184 w185 hR186 x187 bt188
           have E189 := below_bl E181 N180 x187
           have := x187.size
           refine lw_v (.slice Ad183 (0 + k) c184) (dv_assign (T rfl rfl)) <| qN <| lw_v (.slice Ad183 (0 + k) c184) (dv_move (T rfl rfl)) ?_
           have H190 := (bl_blk x187 (n178.ext.blk H174) (by omega))
           refine lw_v (.agg (qA x y u)) (dv_loads (l := (qL x y u)) agt35 sz35 (T rfl f36) H190 rfl) <| lw_v (qi n) (dv_move (T rfl f35)) <| lw_e (oe_buildSlice (pv := [(0, qi n)]) (init := [qi 0]) (l := [qi n]) us41 sz2 rfl rfl zc2 (by kernel_rfl) ⟨rfl, (T rfl rfl), trivial⟩ rfl ?_)
           intro b191 w192 n193
           have N194 : w.heap.size ≤ b191 := n193.eq ▸ E189.size
           have : b1 < b191 := n193.eq ▸ lt_of_blk H190
           have := n193.eq; have := n193.size
           have := Below.fresh n193.ext
           have E195 := below_ext E189 E189.size n193.ext
           refine lw_v (.agg #[qu (wv3 x), qu (wv2 x), qu (wv1 x), qu (wv0 x), qu (wv3 y), qu (wv2 y), qu (wv1 y), qu (wv0 y), qu (wv3 u), qu (wv2 u), qu (wv1 u), qu (wv0 u), .slice (some ⟨b191, 0, none⟩) 1 1]) (dv_build (pv := [(0, .agg (qA x y u)), (1, .slice (some ⟨b191, 0, none⟩) 1 1)]) (l := [qu (wv3 x), qu (wv2 x), qu (wv1 x), qu (wv0 x), qu (wv3 y), qu (wv2 y), qu (wv1 y), qu (wv0 y), qu (wv3 u), qu (wv2 u), qu (wv1 u), qu (wv0 u), .slice (some ⟨b191, 0, none⟩) 1 1]) zc56 pl56 ⟨rfl, (T rfl rfl), ⟨rfl, (T rfl rfl), trivial⟩⟩ rfl) <| lw_e (oe_buildSlice (pv := [(0, .agg #[qu (wv3 x), qu (wv2 x), qu (wv1 x), qu (wv0 x), qu (wv3 y), qu (wv2 y), qu (wv1 y), qu (wv0 y), qu (wv3 u), qu (wv2 u), qu (wv1 u), qu (wv0 u), .slice (some ⟨b191, 0, none⟩) 1 1])]) (init := [qu 0, qu 0, qu 0, qu 0, qu 0, qu 0, qu 0, qu 0, qu 0, qu 0, qu 0, qu 0, .slice none 0 0]) (l := [qu (wv3 x), qu (wv2 x), qu (wv1 x), qu (wv0 x), qu (wv3 y), qu (wv2 y), qu (wv1 y), qu (wv0 y), qu (wv3 u), qu (wv2 u), qu (wv1 u), qu (wv0 u), .slice (some ⟨b191, 0, none⟩) 1 1]) us29 sz56 rfl rfl zc56 (by kernel_rfl) ⟨rfl, (T rfl rfl), trivial⟩ rfl ?_)
           intro b196 w197 n198
           have N199 : w.heap.size ≤ b196 := n198.eq ▸ E195.size
           have : b191 < b196 := n198.eq ▸ lt_of_blk n193.blk
           have := n198.eq; have := n198.size
           have := Below.fresh n198.ext
           have E200 := below_ext E195 E195.size n198.ext
           have h201 := ((hR186.ext n193.ext).ext n198.ext)
           have H203 := (n198.ext.blk n193.blk)
           have hO202 := Ow.full (w := w) (k := .i64) (L := [n]) H203 (by simp)
           refine lw_e (oe_appendC (base := b176) (l := 0 + k) (m := 1) (us := ([] ++ (vs.take (k * 13)))) (vs := (evC (evW ⟨x, y, u, [n]⟩) (some ⟨b191, 0, none⟩) [n].length 1)) us29 in56 rfl (T rfl rfl) (T rfl rfl) h201 (CelA.one (vs := (evC (evW ⟨x, y, u, [n]⟩) (some ⟨b191, 0, none⟩) [n].length 1)) n198.blk) rfl evC_one (by omega) (by omega) ?_)
           intro Ad204 c205 w206 hR207 x208 bt209
           have E210 := below_bl E200 N180 x208
           have := x208.size
           refine lw_v (.slice Ad204 ((0 + k) + 1) c205) (dv_assign (T rfl rfl)) <| qN <| lw_v (.slice Ad204 ((0 + k) + 1) c205) (dv_move (T rfl rfl)) <| lw_v (.slice (some ⟨gt25, 0, none⟩) l ct22) (dv_move (T rfl f39)) <| lw_v (qi (k : Int)) (dv_move (T rfl f40)) <| lw_v (.slice ((slA (some ⟨gt25, 0, none⟩) k ct22)) (l - k) (ct22 - k)) (dv_sliceLo (A := some ⟨gt25, 0, none⟩) (l := l) (c := ct22) (i := k) (j := (k : Int)) us29 sz56 (T rfl rfl) (T rfl rfl) (by omega) (by omega)) ?_
           have h211 := ((((h182.bl x187 (fun g_ o_ h_ => by injection h_ with h_; injection h_ with h_ _ _; omega)).ext n193.ext).ext n198.ext).bl x208 (fun g_ o_ h_ => by injection h_ with h_; injection h_ with h_ _ _; omega))
           refine lw_e (oe_appendC (base := b176) (l := (0 + k) + 1) (m := l - k) (us := (([] ++ (vs.take (k * 13))) ++ (evC (evW ⟨x, y, u, [n]⟩) (some ⟨b191, 0, none⟩) [n].length 1))) (vs := (vs.drop (k * 13))) us29 in56 rfl (T rfl rfl) (T rfl rfl) hR207 (OwC.cel h211 (i := k) (by omega)) (by simp only [List.length_take, List.length_drop, OwC.len h211]; omega) (fun u_ h_ => hC.one u_ (List.mem_of_mem_drop h_)) (by omega) (by omega) ?_)
           intro Ad212 c213 w214 hR215 x216 bt217
           have E218 := below_bl E210 N180 x216
           have := x216.size
           refine lw_v (.slice Ad212 (((0 + k) + 1) + (l - k)) c213) (dv_assign (T rfl rfl)) <| lw_v (.bool true) (dv_assign C) <| lw_nil <| rk_ret Tryz.func5 (v := .tuple #[.slice Ad212 (((0 + k) + 1) + (l - k)) c213, .bool true]) (res2 Tryz.results5 (rv_tmp rfl rfl) (rv_tmp rfl rfl)) ⟨_, rfl, ?_⟩
           have h219 := ((((((hI.ext n178.ext).bl x187 (by omega)).ext n193.ext).ext n198.ext).bl x208 (by omega)).bl x216 (by omega))
           have h220 := ((hO202.btO bt209 x208.size (by decide)).btO bt217 x216.size (by decide))
           have hS : putS l Q x y u n := ⟨⟨by assumption, by assumption, by assumption⟩, .inr (by omega)⟩
           have hl_ : ((0 + k) + 1) + (l - k) = l + 1 := by omega
           rw [hl_] at hR215
           have hG := NG.mk' (h219.ins (i := k) (by omega) h220 (by omega)) (hC.ins (i := k) (ws := evW ⟨x, y, u, [n]⟩) (A1 := some ⟨b191, 0, none⟩) (c1 := 1) (L1 := [n]) (by omega)) (OwC.eqv hR215 (by rw [List.nil_append])) (by omega)
           obtain ⟨e1_, e2_⟩ := putE_m (n := n) hnf hpi
           refine ⟨Ad212, c213, insF St23 k (some ⟨b191, 0, none⟩, 1), ?_⟩
           rw [putN_n hS hnf, show decide (putS l Q x y u n) = true from decide_eq_true hS, hl_]
           exact ⟨rfl, E218, (hG.no.lo_le (by omega)).congr (fun i_ _ j_ _ => congrFun (e1_ i_) j_) (fun i_ _ => e2_ i_)⟩
     · refine rk_ct (T rfl (qT hb19)) <| rk_seq <| rk_reg <| lw_v (.slice none 0 0) (dv_assign C) <| lw_v (.bool false) (dv_assign C) <| lw_nil <| rk_ret Tryz.func5 (v := .tuple #[.slice none 0 0, .bool false]) (res2 Tryz.results5 (rv_tmp rfl rfl) (rv_tmp rfl rfl)) ⟨_, rfl, ?_⟩
       have hS : ¬ putS l Q x y u n := fun h_ => by first | exact absurd h_.1.1 (by assumption) | exact absurd h_.1.2.1 (by assumption) | exact absurd h_.1.2.2 (by assumption) | exact h_.2.elim hnf (fun h_ => by omega)
       refine ⟨none, 0, fun _ => (none, 0), ?_⟩
       rw [putN_f hS, show decide (putS l Q x y u n) = false from decide_eq_false hS]
       exact ⟨rfl, E18, NO.nil E18.size (Nat.le_refl _)⟩
   · refine lw_no (d := 19) rfl rfl (qT hb15) <| lw_no (d := 19) rfl rfl (qT hb15) <| lw_no (d := 19) rfl rfl (qT hb15) <| lw_v (.bool true) (dv_pick_t (T rfl (qT hb15)) C) <| lw_nil <| rk_ct (T rfl rfl) <| rk_seq <| rk_reg <| lw_v (.slice none 0 0) (dv_assign C) <| lw_v (.bool false) (dv_assign C) <| lw_nil ?_
     refine rk_ret Tryz.func5 (v := .tuple #[.slice none 0 0, .bool false]) (res2 Tryz.results5 (rv_tmp rfl rfl) (rv_tmp rfl rfl)) ⟨_, rfl, ?_⟩
     have hS : ¬ putS l Q x y u n := fun h_ => by first | exact absurd h_.1.1 (by assumption) | exact absurd h_.1.2.1 (by assumption) | exact absurd h_.1.2.2 (by assumption) | exact h_.2.elim hnf (fun h_ => by omega)
     refine ⟨none, 0, fun _ => (none, 0), ?_⟩
     rw [putN_f hS, show decide (putS l Q x y u n) = false from decide_eq_false hS]
     exact ⟨rfl, E14, NO.nil E14.size (Nat.le_refl _)⟩
 · refine lw_no (d := 14) rfl rfl (qT hb10) <| lw_no (d := 14) rfl rfl (qT hb10) <| lw_no (d := 14) rfl rfl (qT hb10) <| lw_v (.bool true) (dv_pick_t (T rfl (qT hb10)) C) <| lw_v (.bool true) (dv_move (T rfl rfl)) <| lw_no (d := 19) rfl rfl (rfl) <| lw_no (d := 19) rfl rfl (rfl) <| lw_no (d := 19) rfl rfl (rfl) <| lw_v (.bool true) (dv_pick_t (T rfl rfl) C) <| lw_nil <| rk_ct (T rfl rfl) ?_
   refine rk_seq <| rk_reg <| lw_v (.slice none 0 0) (dv_assign C) <| lw_v (.bool false) (dv_assign C) <| lw_nil <| rk_ret Tryz.func5 (v := .tuple #[.slice none 0 0, .bool false]) (res2 Tryz.results5 (rv_tmp rfl rfl) (rv_tmp rfl rfl)) ⟨_, rfl, ?_⟩
   have hS : ¬ putS l Q x y u n := fun h_ => by first | exact absurd h_.1.1 (by assumption) | exact absurd h_.1.2.1 (by assumption) | exact absurd h_.1.2.2 (by assumption) | exact h_.2.elim hnf (fun h_ => by omega)
   refine ⟨none, 0, fun _ => (none, 0), ?_⟩
   rw [putN_f hS, show decide (putS l Q x y u n) = false from decide_eq_false hS]
   exact ⟨rfl, E9, NO.nil E9.size (Nat.le_refl _)⟩
set_option maxRecDepth 100000 in
set_option maxHeartbeats 8000000 in
theorem iEventPut_ok {w : World} {x y u n : Int} {A : Option Addr} {l c : Nat} {Q : Nat → Ev} {SL : SlF} {lo hi : Nat} (hx : NR w lo hi A l (fun i_ => evW (Q i_)) (fun i_ => (Q i_).es) SL) (hxb : l ≤ 1048576) (hxf : evF l Q) (fx_ : fits x) (fy_ : fits y) (fu_ : fits u) : Ct Tryz.prog 8 [.slice A l c, .agg #[.int .u64 (wv3 x), .int .u64 (wv2 x), .int .u64 (wv1 x), .int .u64 (wv0 x), .int .u64 (wv3 y), .int .u64 (wv2 y), .int .u64 (wv1 y), .int .u64 (wv0 y), .int .u64 (wv3 u), .int .u64 (wv2 u), .int .u64 (wv1 u), .int .u64 (wv0 u)], .int .i64 n] w fun v w1 => ∃ A2 c2 S2, v = .tuple #[.slice A2 (putN l Q x y u n) c2, .bool (decide (putS l Q x y u n))] ∧ Ext w w1 ∧ NO w1 w.heap.size w1.heap.size (-1) 56 2 A2 (putN l Q x y u n) (putN l Q x y u n) (fun i_ => evW ((putQ l Q x y u n) i_)) (fun i_ => ((putQ l Q x y u n) i_).es) S2 := by
 refine ct_run (n := 90) Tryz.func8 rfl Tryz.ntmps8 rfl ?_
 have E0 : Below w.heap.size w w := Below.refl _ _
 have hhi := hx.lh
 refine rk_seq <| rk_reg <| lw_e (oe_box (v := .agg (qA x y u)) (cs := (qA x y u)) (T rfl rfl) rfl ?_)
 intro b1 w2 n3
 have N4 : w.heap.size ≤ b1 := n3.eq ▸ E0.size
 have := n3.eq; have := n3.size
 have := Below.fresh n3.ext
 have E5 := below_ext E0 E0.size n3.ext
 refine lw_v (.slice none 0 0) (dv_assign C) <| lw_v (.bool false) (dv_assign C) <| lw_nil <| rk_seq <| rk_seq <| rk_reg <| lw_v (.slice A l c) (dv_move (T rfl rfl)) ?_
 have h6 := (hx.ext n3.ext)
 refine lw_e (oe_callf (vs := [.slice A l c]) co22 (ar1 (T rfl rfl)) (iEventsOk_ok (c := c) h6 (by omega) hxf) ?_)
 rintro _ w7 ⟨rfl, e8⟩
 have := Below.fresh e8
 have E9 := below_ext E5 E5.size e8
 refine lw_v (qd (¬ (evsOk l Q))) (dv_notd (p := evsOk l Q) (T rfl rfl)) <| lw_v (qd (¬ (evsOk l Q))) (dv_move (T rfl rfl)) ?_
 by_cases hb10 : evsOk l Q
 · have hl2_ := evsOk_l hb10; have hev_ := hb10
   have H11 := (e8.blk n3.blk)
   refine lw_vy (.agg (qA x y u)) (d := 14) rfl rfl (congrArg Value.bool (decide_eq_false (not_not_intro hb10))) (dv_loads (l := (qL x y u)) agt35 sz35 (T rfl rfl) H11 rfl) <| lw_ey (d := 14) rfl rfl (congrArg Value.bool (decide_eq_false (not_not_intro hb10))) (oe_callf (vs := [.agg (qA x y u)]) co23 (ar1 (T rfl rfl)) (iPointOk_ok (x := x) (y := y) (u := u) fx_ fy_ fu_ ) ?_)
   rintro _ w12 ⟨rfl, e13⟩
   have := Below.fresh e13
   have E14 := below_ext E9 E9.size e13
   refine lw_vy (qd (¬ (pOk x y u))) (d := 14) rfl rfl (congrArg Value.bool (decide_eq_false (not_not_intro hb10))) (dv_notd (p := pOk x y u) (T rfl rfl)) <| lw_v (qd (¬ (pOk x y u))) (dv_pick_f (T rfl (congrArg Value.bool (decide_eq_false (not_not_intro hb10)))) (T rfl rfl)) <| lw_v (qd (¬ (pOk x y u))) (dv_move (T rfl rfl)) ?_
   by_cases hb15 : pOk x y u
   · refine lw_vy (qi n) (d := 19) rfl rfl (congrArg Value.bool (decide_eq_false (not_not_intro hb15))) (dv_move (T rfl rfl)) <| lw_ey (d := 19) rfl rfl (congrArg Value.bool (decide_eq_false (not_not_intro hb15))) (oe_callf (vs := [qi n, qi 0, qi 39]) co24 (ar3 (T rfl rfl) C C) (within_ok (n := n) (lo := 0) (hi := 39)  ) ?_)
     rintro _ w16 ⟨rfl, e17⟩
     have := Below.fresh e17
     have E18 := below_ext E14 E14.size e17
     refine lw_vy (qd (¬ ((0 : Int) ≤ n ∧ n ≤ (39 : Int)))) (d := 19) rfl rfl (congrArg Value.bool (decide_eq_false (not_not_intro hb15))) (dv_notd (p := (0 : Int) ≤ n ∧ n ≤ (39 : Int)) (T rfl rfl)) <| lw_v (qd (¬ ((0 : Int) ≤ n ∧ n ≤ (39 : Int)))) (dv_pick_f (T rfl (congrArg Value.bool (decide_eq_false (not_not_intro hb15)))) (T rfl rfl)) <| lw_nil ?_
     by_cases hb19 : (0 : Int) ≤ n ∧ n ≤ (39 : Int)
     · refine rk_cf (T rfl (congrArg Value.bool (decide_eq_false (not_not_intro hb19)))) <| rk_skip <| rk_seq <| rk_reg <| lw_v (.slice A l c) (dv_move (T rfl rfl)) ?_
       have h20 := (((h6.ext e8).ext e13).ext e17)
       refine lw_e (oe_callf (vs := [.slice A l c]) co25 (ar1 (T rfl rfl)) (copyEvents_ok (c := c) h20 (by omega) hxf (evsOk_ne (by assumption)) (by omega)) ?_)
       rintro _ w26 ⟨_, ct22, St23, rfl, e27, ⟨gt25, rfl⟩, hNt24⟩
       have := Below.fresh e27
       have E28 := below_ext E18 E18.size e27
       refine lw_v (.slice (some ⟨gt25, 0, none⟩) l ct22) (dv_assign (T rfl rfl)) <| qN <| lw_v (qi 0) (dv_assign C) <| lw_nil <| rk_seq <| rk_block ?_
       have H29 := (e27.blk (e17.blk (e13.blk H11)))
       refine rk_loop (fun dm_ fr wl => ∃ (k : Nat), dm_ = l - k ∧ fr 2 = qi n ∧ fr 4 = .pointer (some ⟨b1, 0, none⟩) ∧ fr 6 = .slice none 0 0 ∧ fr 7 = .bool false ∧ fr 8 = .slice (some ⟨gt25, 0, none⟩) l ct22 ∧ fr 9 = qi (k : Int) ∧ Below w.heap.size w wl ∧ wl.heap[b1]? = some (.cells (qA x y u) 35) ∧ NG wl w16.heap.size w26.heap.size 56 2 (some ⟨gt25, 0, none⟩) l ct22 (fun i_ => evW (Q i_)) (fun i_ => (Q i_).es) St23 ∧ (k ≤ l) ∧ (∀ q_, q_ < k → ltQ Q x y u q_)) (l - 0) ⟨0, rfl, rfl, rfl, rfl, rfl, rfl, (vi (by omega)), E28, H29, hNt24, (Nat.zero_le _), (fun q_ h_ => absurd h_ (by omega))⟩ ?_
       intro d34 fr33 w30 hI31 ih32
       obtain ⟨k, hd44, f35, f36, f37, f38, f39, f40, E41, H42, h43, hk_, hlt⟩ := hI31
       refine rk_seq <| rk_seq <| rk_any (fun w => NR w w16.heap.size w26.heap.size (some ⟨gt25, 0, none⟩) l (fun i_ => evW (Q i_)) (fun i_ => (Q i_).es) St23 ∧ w.heap[b1]? = some (.cells (qA x y u) 35)) [] mo ?_
       intro w45 d46
       have := Below.fresh d46.ext
       have E47 := below_ext E41 E41.size d46.ext
       have h48 := (h43.ext d46.ext)
       have H49 := (d46.ext.blk H42)
       refine aw_pure 0 (qi (k : Int)) rfl (by kernel_rfl) .none ⟨h48.nr, H49⟩ (fun _ => dv_move (T rfl f40)) <| aw_pure 1 (.slice (some ⟨gt25, 0, none⟩) l ct22) rfl (by kernel_rfl) .none ⟨h48.nr, H49⟩ (fun _ => dv_move (T rfl f39)) <| aw_pure 2 (qi (l : Int)) rfl (by kernel_rfl) .none ⟨h48.nr, H49⟩ (fun _ => dv_len (ad := some ⟨gt25, 0, none⟩) (l := l) (c := ct22) us29 (T rfl rfl)) <| aw_pure 3 (qd ((k : Int) < (l : Int))) rfl (by kernel_rfl) .none ⟨h48.nr, H49⟩ (fun _ => dv_lss (a := (k : Int)) (b := (l : Int)) (T rfl rfl) (T rfl rfl)) <| aw_pure 4 (qd ((k : Int) < (l : Int))) rfl (by kernel_rfl) .none ⟨h48.nr, H49⟩ (fun _ => dv_move (T rfl rfl)) ?_
       by_cases hb50 : ((k : Int)) < ((l : Int))
       · refine aw_pure 5 (.slice (some ⟨gt25, 0, none⟩) l ct22) rfl (by kernel_rfl) (.yes (d := 30) rfl rfl (qT hb50)) ⟨h48.nr, H49⟩ (fun _ => dv_move (T rfl f39)) <| aw_pure 6 (qi (k : Int)) rfl (by kernel_rfl) (.yes (d := 30) rfl rfl (qT hb50)) ⟨h48.nr, H49⟩ (fun _ => dv_move (T rfl f40)) <| aw_pure 7 (.pointer (some ⟨gt25, 0 + k * 13, none⟩)) rfl (by kernel_rfl) (.yes (d := 30) rfl rfl (qT hb50)) ⟨h48.nr, H49⟩ (fun _ => dv_indexM (g := gt25) (o := 0) (l := l) (c := ct22) (i := k) (j := (k : Int)) (m := 13) us29 sz56 (T rfl rfl) (T rfl rfl) (by omega) (by first | omega | (simp; done) | (simp; omega))) <| aw_pure 8 (.pointer (some ⟨gt25, 0 + (k * 13), none⟩)) rfl (by kernel_rfl) (.yes (d := 30) rfl rfl (qT hb50)) ⟨h48.nr, H49⟩ (fun _ => dv_fieldW (g := gt25) (o := 0) (i := k * 13) fo56_0 (T rfl rfl)) <| aw_load 9 (.agg (qA ((Q k).x) ((Q k).y) ((Q k).u))) rfl (by kernel_rfl) (.yes (d := 30) rfl rfl (qT hb50)) ⟨h48.nr, H49⟩ (fun _ s => dv_loadsR (l := (qL ((Q k).x) ((Q k).y) ((Q k).u))) agt35 sz35 (T rfl rfl) rfl (NR.pt (i := k) s.1 (by first | omega | (simp; done) | (simp; omega)))) <| aw_load 10 (.agg (qA x y u)) rfl (by kernel_rfl) (.yes (d := 30) rfl rfl (qT hb50)) ⟨h48.nr, H49⟩ (fun _ s => dv_loads (l := (qL x y u)) agt35 sz35 (T rfl f36) s.2 rfl) <| aw_one 11 rfl (by kernel_rfl) (.yes (d := 30) rfl rfl (qT hb50)) (oe_callf (vs := [.agg (qA ((Q k).x) ((Q k).y) ((Q k).u)), .agg (qA x y u)]) co26 (ar2 (T rfl rfl) (T rfl rfl)) (cmpPoints_ok (x := (Q k).x) (y := (Q k).y) (u := (Q k).u) (p := x) (q := y) (r := u) (evF.x hxf (i := k) (by omega)) (evF.y hxf (i := k) (by omega)) (evF.u hxf (i := k) (by omega)) fx_ fy_ fu_ ) ?_)
         rintro _ w51 ⟨rfl, e52⟩
         have := Below.fresh e52
         have E53 := below_ext E47 E47.size e52
         have := pc_rg ((Q k).x) ((Q k).y) ((Q k).u) x y u
         have h54 := (h48.ext e52)
         have H55 := (e52.blk H49)
         refine ⟨.inr ⟨h54.nr, H55⟩, ?_⟩
         refine aw_pure 12 (qd ((pc ((Q k).x) ((Q k).y) ((Q k).u) x y u) < 0)) rfl (by kernel_rfl) (.yes (d := 30) rfl rfl (qT hb50)) ⟨h54.nr, H55⟩ (fun _ => dv_lss (a := pc ((Q k).x) ((Q k).y) ((Q k).u) x y u) (b := 0) (T rfl rfl) C) <| aw_pure 13 (qd ((pc ((Q k).x) ((Q k).y) ((Q k).u) x y u) < 0)) rfl (by kernel_rfl) .none ⟨h54.nr, H55⟩ (fun _ => dv_pick_t (T rfl (qT hb50)) (T rfl rfl)) <| aw_done (by kernel_rfl) ?_
         by_cases hb56 : (pc ((Q k).x) ((Q k).y) ((Q k).u) x y u) < 0
         · refine rk_ct (T rfl (qT hb56)) <| rk_skip <| rk_block <| rk_reg <| lw_v (qi (k : Int)) (dv_move (T rfl f40)) <| lw_v (qi ((k : Int) + 1)) (dv_add (a := (k : Int)) (b := 1) (z := (k : Int) + 1) (T rfl rfl) C (wr_i64 (by omega) (by omega))) <| lw_v (qi ((k : Int) + 1)) (dv_assign (T rfl rfl)) <| lw_nil <| rk_inBlock ?_
           exact ih32 (l - (k + 1)) _ _ (by rw [hd44]; omega) ⟨(k + 1), rfl, f35, f36, f37, f38, f39, (vi (by omega)), E53, H55, h54, (by omega), (all_step hlt (by first | assumption | omega))⟩
         · refine rk_cf (T rfl (qF hb56)) <| rk_exit rfl <| rk_seq <| rk_seq ?_
           have hpi : pidx l Q x y u = k := pidx_eq hk_ hlt (by first | exact .inl (by omega) | exact .inr (by first | assumption | omega))
           have hlh_ := h54.lh
           refine rk_any (fun w => NR w w16.heap.size w26.heap.size (some ⟨gt25, 0, none⟩) l (fun i_ => evW (Q i_)) (fun i_ => (Q i_).es) St23 ∧ w.heap[b1]? = some (.cells (qA x y u) 35)) [] mo ?_
           intro w57 d58
           have := Below.fresh d58.ext
           have E59 := below_ext E53 E53.size d58.ext
           have h60 := (h54.ext d58.ext)
           have H61 := (d58.ext.blk H55)
           refine aw_pure 0 (qi (k : Int)) rfl (by kernel_rfl) .none ⟨h60.nr, H61⟩ (fun _ => dv_move (T rfl f40)) <| aw_pure 1 (.slice (some ⟨gt25, 0, none⟩) l ct22) rfl (by kernel_rfl) .none ⟨h60.nr, H61⟩ (fun _ => dv_move (T rfl f39)) <| aw_pure 2 (qi (l : Int)) rfl (by kernel_rfl) .none ⟨h60.nr, H61⟩ (fun _ => dv_len (ad := some ⟨gt25, 0, none⟩) (l := l) (c := ct22) us29 (T rfl rfl)) <| aw_pure 3 (qd ((k : Int) = (l : Int))) rfl (by kernel_rfl) .none ⟨h60.nr, H61⟩ (fun _ => dv_eql (a := (k : Int)) (b := (l : Int)) (T rfl rfl) (T rfl rfl)) <| aw_pure 4 (qd ((k : Int) = (l : Int))) rfl (by kernel_rfl) .none ⟨h60.nr, H61⟩ (fun _ => dv_move (T rfl rfl)) ?_
           by_cases hb62 : ((k : Int)) = ((l : Int))
           · refine aw_no 5 rfl (by kernel_rfl) (d := 46) rfl rfl (qT hb62) ⟨h60.nr, H61⟩ <| aw_no 6 rfl (by kernel_rfl) (d := 46) rfl rfl (qT hb62) ⟨h60.nr, H61⟩ <| aw_no 7 rfl (by kernel_rfl) (d := 46) rfl rfl (qT hb62) ⟨h60.nr, H61⟩ <| aw_no 8 rfl (by kernel_rfl) (d := 46) rfl rfl (qT hb62) ⟨h60.nr, H61⟩ <| aw_no 9 rfl (by kernel_rfl) (d := 46) rfl rfl (qT hb62) ⟨h60.nr, H61⟩ <| aw_no 10 rfl (by kernel_rfl) (d := 46) rfl rfl (qT hb62) ⟨h60.nr, H61⟩ <| aw_no 11 rfl (by kernel_rfl) (d := 46) rfl rfl (qT hb62) ⟨h60.nr, H61⟩ <| aw_pure 12 (.bool true) rfl (by kernel_rfl) .none ⟨h60.nr, H61⟩ (fun _ => dv_pick_t (T rfl (qT hb62)) C) <| aw_done (by kernel_rfl) <| rk_ct (T rfl rfl) <| rk_seq ?_
             refine rk_seq ?_
             have hnf : ¬ fdQ l Q x y u := fun h_ => by
              have h1_ := h_.1; have h2_ := h_.2; rw [hpi] at h1_ h2_
              first | omega | exact absurd ((wl12_eq (evF.x hxf (i := k) (by omega)) (evF.y hxf (i := k) (by omega)) (evF.u hxf (i := k) (by omega)) fx_ fy_ fu_).2 h2_) (by assumption)
             refine rk_reg <| lw_v (.slice (some ⟨gt25, 0, none⟩) l ct22) (dv_move (T rfl f39)) <| lw_v (qi (l : Int)) (dv_len (ad := some ⟨gt25, 0, none⟩) (l := l) (c := ct22) us29 (T rfl rfl)) <| lw_v (qd ((l : Int) = 200)) (dv_eql (a := (l : Int)) (b := 200) (T rfl rfl) C) <| lw_nil ?_
             by_cases hb63 : ((l : Int)) = 200
             · refine rk_ct (T rfl (qT hb63)) <| rk_seq <| rk_reg <| lw_v (.slice none 0 0) (dv_assign C) <| lw_v (.bool false) (dv_assign C) <| lw_nil <| rk_ret Tryz.func8 (v := .tuple #[.slice none 0 0, .bool false]) (res2 Tryz.results8 (rv_tmp rfl rfl) (rv_tmp rfl rfl)) ⟨_, rfl, ?_⟩
               have hnf : ¬ fdQ l Q x y u := fun h_ => by
                have h1_ := h_.1; have h2_ := h_.2; rw [hpi] at h1_ h2_
                first | omega | exact absurd ((wl12_eq (evF.x hxf (i := k) (by omega)) (evF.y hxf (i := k) (by omega)) (evF.u hxf (i := k) (by omega)) fx_ fy_ fu_).2 h2_) (by assumption)
               have hS : ¬ putS l Q x y u n := fun h_ => by first | exact absurd h_.1.1 (by assumption) | exact absurd h_.1.2.1 (by assumption) | exact absurd h_.1.2.2 (by assumption) | exact h_.2.elim hnf (fun h_ => by omega)
               refine ⟨none, 0, fun _ => (none, 0), ?_⟩
               rw [putN_f hS, show decide (putS l Q x y u n) = false from decide_eq_false hS]
               exact ⟨rfl, E59, NO.nil E59.size (Nat.le_refl _)⟩
             · refine rk_cf (T rfl (qF hb63)) <| rk_skip ?_
               have hS : putS l Q x y u n := ⟨⟨by assumption, by assumption, by assumption⟩, .inr (by omega)⟩
               refine rk_reg <| lw_v (.slice (some ⟨gt25, 0, none⟩) l ct22) (dv_move (T rfl f39)) <| lw_v (qi (k : Int)) (dv_move (T rfl f40)) <| lw_v (.agg (qA x y u)) (dv_loads (l := (qL x y u)) agt35 sz35 (T rfl f36) H61 rfl) <| lw_v (.agg (qB x y u (.slice none 0 0))) (dv_build (pv := [(0, .agg (qA x y u))]) (l := (qM x y u (.slice none 0 0))) zc56 pl56 ⟨rfl, (T rfl rfl), trivial⟩ rfl) <| lw_e (oe_buildSlice (pv := [(0, .agg (qB x y u (.slice none 0 0)))]) (init := [qu 0, qu 0, qu 0, qu 0, qu 0, qu 0, qu 0, qu 0, qu 0, qu 0, qu 0, qu 0, .slice none 0 0]) (l := (qM x y u (.slice none 0 0))) us29 sz56 rfl rfl zc56 (by kernel_rfl) ⟨rfl, (T rfl rfl), trivial⟩ rfl ?_)
               intro b64 w65 n66
               have N67 : w.heap.size ≤ b64 := n66.eq ▸ E59.size
               have : b1 < b64 := n66.eq ▸ lt_of_blk H61
               have := n66.eq; have := n66.size
               have := Below.fresh n66.ext
               have E68 := below_ext E59 E59.size n66.ext
               have h69 := (h60.ext n66.ext)
               refine lw_e (oe_callf (vs := [.slice (some ⟨gt25, 0, none⟩) l ct22, qi (k : Int), .slice (some ⟨b64, 0, none⟩) 1 1]) co27 (ar3 (T rfl rfl) (T rfl rfl) (T rfl rfl)) (insE_ok (x := x) (y := y) (u := u) (i := k) h69 n66.blk (by omega) (by omega) (by omega)) ?_)
               rintro _ w76 ⟨g70, c71, Q72, S73, rfl, e77, hQ74, hN75⟩
               have E78 := below_bl E68 E18.size e77
               refine lw_v (.slice (some ⟨g70, 0, none⟩) (l + 1) c71) (dv_assign (T rfl rfl)) <| lw_nil <| rk_seq <| rk_seq <| rk_reg <| lw_v (.slice (some ⟨g70, 0, none⟩) (l + 1) c71) (dv_move (T rfl rfl)) <| lw_v (qi (k : Int)) (dv_move (T rfl f40)) <| lw_v (.pointer (some ⟨g70, 0 + k * 13, none⟩)) (dv_indexM (g := g70) (o := 0) (l := l + 1) (c := c71) (i := k) (j := (k : Int)) (m := 13) us29 sz56 (T rfl rfl) (T rfl rfl) (by omega) (by first | omega | (simp; done) | (simp; omega))) <| lw_v (.pointer (some ⟨g70, 0 + k * 13, none⟩)) (dv_assign (T rfl rfl)) <| lw_nil <| rk_seq ?_
               obtain ⟨As79, hAs81⟩ : ∃ q_ : Option Addr, q_ = (S73 k).1 := ⟨_, rfl⟩
               obtain ⟨cs80, hcs82⟩ : ∃ q_ : Nat, q_ = (S73 k).2 := ⟨_, rfl⟩
               have hes0_ : (Q72 k).es = [] := by rw [hQ74, insF_at]
               have hes_ : (Q72 k).es.length ≤ 40 := by rw [hes0_]; decide
               refine rk_reg <| lw_v (.pointer (some ⟨g70, 0 + k * 13, none⟩)) (dv_move (T rfl rfl)) <| lw_v (.pointer (some ⟨g70, 0 + k * 13, none⟩)) (dv_nilCheck (T rfl rfl)) <| lw_v (.pointer (some ⟨g70, 0 + (k * 13 + 12), none⟩)) (dv_fieldW (g := g70) (o := 0) (i := k * 13) fo56_1 (T rfl rfl)) <| lw_v (.slice As79 ((Q72 k).es.length) cs80) (dv_load agt41 (T rfl rfl) (NR.slA (i := k) hN75.nr (by first | omega | (simp; done) | (simp; omega)) hAs81 hcs82)) <| lw_v (qi n) (dv_move (T rfl f35)) <| lw_e (oe_callf (vs := [.slice As79 ((Q72 k).es.length) cs80, qi n]) co28 (ar2 (T rfl rfl) (T rfl rfl)) (containsI_ok (x := n) (c := cs80) (NR.rdA (i := k) hN75.nr (by first | omega | (simp; done) | (simp; omega)) hAs81) rfl (by omega)) ?_)
               rintro _ w83 ⟨rfl, e84⟩
               have := Below.fresh e84
               have E85 := below_ext E78 E78.size e84
               refine lw_v (qd (¬ (n ∈ (Q72 k).es))) (dv_notd (p := n ∈ (Q72 k).es) (T rfl rfl)) <| lw_nil ?_
               by_cases hb86 : n ∈ (Q72 k).es
               · refine rk_cf (T rfl (congrArg Value.bool (decide_eq_false (not_not_intro hb86)))) <| rk_skip <| rk_seq <| rk_reg <| lw_v (.slice (some ⟨g70, 0, none⟩) (l + 1) c71) (dv_move (T rfl rfl)) <| lw_v (.slice (some ⟨g70, 0, none⟩) (l + 1) c71) (dv_assign (T rfl rfl)) <| lw_v (.bool true) (dv_assign C) <| lw_nil <| rk_ret Tryz.func8 (v := .tuple #[.slice (some ⟨g70, 0, none⟩) (l + 1) c71, .bool true]) (res2 Tryz.results8 (rv_tmp rfl rfl) (rv_tmp rfl rfl)) ⟨_, rfl, ?_⟩
                 have h87 := (hN75.ext e84)
                 exact absurd (hes0_ ▸ (by assumption : n ∈ (Q72 k).es)) (List.not_mem_nil)
               · refine rk_ct (T rfl (qT hb86)) <| rk_seq <| rk_reg <| lw_v (.pointer (some ⟨g70, 0 + k * 13, none⟩)) (dv_move (T rfl rfl)) <| lw_v (.pointer (some ⟨g70, 0 + k * 13, none⟩)) (dv_move (T rfl rfl)) <| lw_v (.pointer (some ⟨g70, 0 + k * 13, none⟩)) (dv_nilCheck (T rfl rfl)) <| lw_v (.pointer (some ⟨g70, 0 + (k * 13 + 12), none⟩)) (dv_fieldW (g := g70) (o := 0) (i := k * 13) fo56_1 (T rfl rfl)) ?_
                 have h88 := (hN75.ext e84)
                 refine lw_v (.slice As79 ((Q72 k).es.length) cs80) (dv_load agt41 (T rfl rfl) (NR.slA (i := k) h88.nr (by first | omega | (simp; done) | (simp; omega)) hAs81 hcs82)) <| lw_v (qi n) (dv_move (T rfl f35)) <| lw_e (oe_buildSlice (pv := [(0, qi n)]) (init := [qi 0]) (l := [qi n]) us41 sz2 rfl rfl zc2 (by kernel_rfl) ⟨rfl, (T rfl rfl), trivial⟩ rfl ?_)
                 intro b89 w90 n91
                 have N92 : w.heap.size ≤ b89 := n91.eq ▸ E85.size
                 have H93 := (e84.blk (bl_blk e77 (n66.ext.blk H61) (by omega)))
                 have : b1 < b89 := n91.eq ▸ lt_of_blk H93
                 have := n91.eq; have := n91.size
                 have := Below.fresh n91.ext
                 have E94 := below_ext E85 E85.size n91.ext
                 have h95 := (h88.ext n91.ext)
                 refine lw_e (oe_appendI (lo := w16.heap.size) (hi := w76.heap.size) (i := k) (z := n) us41 in2 (T rfl rfl) (T rfl rfl) h95 (by decide) (by omega) hAs81 rfl hcs82 n91.blk (by omega) (by omega) ?_)
                 intro Ad96 c97 w98 hH99 hO100 x101
                 have E102 := below_bl E94 E18.size x101
                 refine lw_v (.pointer (some ⟨g70, 0 + k * 13, none⟩)) (dv_nilCheck (T rfl rfl)) <| lw_v (.pointer (some ⟨g70, 0 + (k * 13 + 12), none⟩)) (dv_fieldW (g := g70) (o := 0) (i := k * 13) fo56_1 (T rfl rfl)) <| lw_e (oe_storeI (lo := w16.heap.size) (hi := w98.heap.size) (g := g70) (i := k) (L := ((Q72 k).es ++ [n])) sz41 (T rfl rfl) (T rfl rfl) hH99 hO100 (by rw [List.length_append]; rfl) (by decide) (by omega) ?_)
                 intro w103 hN104 x105 hs106
                 have E107 := below_bl E102 E18.size x105
                 refine lw_nil <| rk_reg <| lw_v (.pointer (some ⟨g70, 0 + k * 13, none⟩)) (dv_move (T rfl rfl)) <| lw_v (.pointer (some ⟨g70, 0 + k * 13, none⟩)) (dv_nilCheck (T rfl rfl)) <| lw_v (.pointer (some ⟨g70, 0 + (k * 13 + 12), none⟩)) (dv_fieldW (g := g70) (o := 0) (i := k * 13) fo56_1 (T rfl rfl)) <| lw_v (.slice Ad96 (((updA (fun i_ => (Q72 i_).es) k (((Q72 k).es ++ [n]))) k).length) c97) (dv_load agt41 (T rfl rfl) (NR.slA (i := k) hN104.nr (by first | omega | (simp; done) | (simp; omega)) (by rw [updA_same]) (by rw [updA_same]))) <| lw_e (oe_callf (vs := [.slice Ad96 (((updA (fun i_ => (Q72 i_).es) k (((Q72 k).es ++ [n]))) k).length) c97]) co29 (ar1 (T rfl rfl)) (sortI_ok (i := k) hN104 (by omega) (by rw [updA_same]) (by rw [updA_same]) rfl (by have := hes_; rw [updA_same, List.length_append, List.length_singleton]; omega) (by have := hes_; rw [updA_same, List.length_append, List.length_singleton]; omega)) ?_)
                 rintro _ w109 ⟨rfl, e110, hN108⟩
                 have E111 := below_bl E107 E18.size e110
                 refine qN <| lw_v (.slice (some ⟨g70, 0, none⟩) (l + 1) c71) (dv_move (T rfl rfl)) <| lw_v (.slice (some ⟨g70, 0, none⟩) (l + 1) c71) (dv_assign (T rfl rfl)) <| lw_v (.bool true) (dv_assign C) <| lw_nil <| rk_ret Tryz.func8 (v := .tuple #[.slice (some ⟨g70, 0, none⟩) (l + 1) c71, .bool true]) (res2 Tryz.results8 (rv_tmp rfl rfl) (rv_tmp rfl rfl)) ⟨_, rfl, ?_⟩
                 obtain ⟨e1_, e2_⟩ := putE_n (n := n) hnf hpi
                 rw [← hQ74] at e1_ e2_
                 refine ⟨some ⟨g70, 0, none⟩, c71, ((updA S73 k (Ad96, c97))), ?_⟩
                 rw [putN_n hS hnf, show decide (putS l Q x y u n) = true from decide_eq_true hS]
                 exact ⟨rfl, E111, (hN108.no.lo_le (by omega)).congr (fun i_ _ j_ _ => congrFun (e1_ i_) j_) (fun i_ _ => (e2_ i_).trans (by rw [sortE (E0 := fun i_ => (Q72 i_).es) (k := k) (n := n) (by show riseP (Q72 k).es; rw [hes0_]; exact riseP_nil) (by assumption) i_, hes0_]; rfl))⟩
           · refine aw_pure 5 (.slice (some ⟨gt25, 0, none⟩) l ct22) rfl (by kernel_rfl) (.yes (d := 46) rfl rfl (qF hb62)) ⟨h60.nr, H61⟩ (fun _ => dv_move (T rfl f39)) <| aw_pure 6 (qi (k : Int)) rfl (by kernel_rfl) (.yes (d := 46) rfl rfl (qF hb62)) ⟨h60.nr, H61⟩ (fun _ => dv_move (T rfl f40)) <| aw_pure 7 (.pointer (some ⟨gt25, 0 + k * 13, none⟩)) rfl (by kernel_rfl) (.yes (d := 46) rfl rfl (qF hb62)) ⟨h60.nr, H61⟩ (fun _ => dv_indexM (g := gt25) (o := 0) (l := l) (c := ct22) (i := k) (j := (k : Int)) (m := 13) us29 sz56 (T rfl rfl) (T rfl rfl) (by omega) (by first | omega | (simp; done) | (simp; omega))) <| aw_pure 8 (.pointer (some ⟨gt25, 0 + (k * 13), none⟩)) rfl (by kernel_rfl) (.yes (d := 46) rfl rfl (qF hb62)) ⟨h60.nr, H61⟩ (fun _ => dv_fieldW (g := gt25) (o := 0) (i := k * 13) fo56_0 (T rfl rfl)) <| aw_load 9 (.agg (qA ((Q k).x) ((Q k).y) ((Q k).u))) rfl (by kernel_rfl) (.yes (d := 46) rfl rfl (qF hb62)) ⟨h60.nr, H61⟩ (fun _ s => dv_loadsR (l := (qL ((Q k).x) ((Q k).y) ((Q k).u))) agt35 sz35 (T rfl rfl) rfl (NR.pt (i := k) s.1 (by first | omega | (simp; done) | (simp; omega)))) <| aw_load 10 (.agg (qA x y u)) rfl (by kernel_rfl) (.yes (d := 46) rfl rfl (qF hb62)) ⟨h60.nr, H61⟩ (fun _ s => dv_loads (l := (qL x y u)) agt35 sz35 (T rfl f36) s.2 rfl) <| aw_pure 11 (qd (([wv3 ((Q k).x), wv2 ((Q k).x), wv1 ((Q k).x), wv0 ((Q k).x), wv3 ((Q k).y), wv2 ((Q k).y), wv1 ((Q k).y), wv0 ((Q k).y), wv3 ((Q k).u), wv2 ((Q k).u), wv1 ((Q k).u), wv0 ((Q k).u)] : List Int) ≠ [wv3 x, wv2 x, wv1 x, wv0 x, wv3 y, wv2 y, wv1 y, wv0 y, wv3 u, wv2 u, wv1 u, wv0 u])) rfl (by kernel_rfl) (.yes (d := 46) rfl rfl (qF hb62)) ⟨h60.nr, H61⟩ (fun _ => dv_neqn (k := .u64) (la := [wv3 ((Q k).x), wv2 ((Q k).x), wv1 ((Q k).x), wv0 ((Q k).x), wv3 ((Q k).y), wv2 ((Q k).y), wv1 ((Q k).y), wv0 ((Q k).y), wv3 ((Q k).u), wv2 ((Q k).u), wv1 ((Q k).u), wv0 ((Q k).u)]) (lb := [wv3 x, wv2 x, wv1 x, wv0 x, wv3 y, wv2 y, wv1 y, wv0 y, wv3 u, wv2 u, wv1 u, wv0 u]) fl35 eg35 (T rfl rfl) (T rfl rfl) rfl rfl) <| aw_pure 12 (qd (([wv3 ((Q k).x), wv2 ((Q k).x), wv1 ((Q k).x), wv0 ((Q k).x), wv3 ((Q k).y), wv2 ((Q k).y), wv1 ((Q k).y), wv0 ((Q k).y), wv3 ((Q k).u), wv2 ((Q k).u), wv1 ((Q k).u), wv0 ((Q k).u)] : List Int) ≠ [wv3 x, wv2 x, wv1 x, wv0 x, wv3 y, wv2 y, wv1 y, wv0 y, wv3 u, wv2 u, wv1 u, wv0 u])) rfl (by kernel_rfl) .none ⟨h60.nr, H61⟩ (fun _ => dv_pick_f (T rfl (qF hb62)) (T rfl rfl)) <| aw_done (by kernel_rfl) ?_
             by_cases hb112 : ([wv3 ((Q k).x), wv2 ((Q k).x), wv1 ((Q k).x), wv0 ((Q k).x), wv3 ((Q k).y), wv2 ((Q k).y), wv1 ((Q k).y), wv0 ((Q k).y), wv3 ((Q k).u), wv2 ((Q k).u), wv1 ((Q k).u), wv0 ((Q k).u)] : List Int) ≠ [wv3 x, wv2 x, wv1 x, wv0 x, wv3 y, wv2 y, wv1 y, wv0 y, wv3 u, wv2 u, wv1 u, wv0 u]
             · refine rk_ct (T rfl (qT hb112)) <| rk_seq <| rk_seq ?_
               have hnf : ¬ fdQ l Q x y u := fun h_ => by
                have h1_ := h_.1; have h2_ := h_.2; rw [hpi] at h1_ h2_
                first | omega | exact absurd ((wl12_eq (evF.x hxf (i := k) (by omega)) (evF.y hxf (i := k) (by omega)) (evF.u hxf (i := k) (by omega)) fx_ fy_ fu_).2 h2_) (by assumption)
               refine rk_reg <| lw_v (.slice (some ⟨gt25, 0, none⟩) l ct22) (dv_move (T rfl f39)) <| lw_v (qi (l : Int)) (dv_len (ad := some ⟨gt25, 0, none⟩) (l := l) (c := ct22) us29 (T rfl rfl)) <| lw_v (qd ((l : Int) = 200)) (dv_eql (a := (l : Int)) (b := 200) (T rfl rfl) C) <| lw_nil ?_
               by_cases hb113 : ((l : Int)) = 200
               · refine rk_ct (T rfl (qT hb113)) <| rk_seq <| rk_reg <| lw_v (.slice none 0 0) (dv_assign C) <| lw_v (.bool false) (dv_assign C) <| lw_nil <| rk_ret Tryz.func8 (v := .tuple #[.slice none 0 0, .bool false]) (res2 Tryz.results8 (rv_tmp rfl rfl) (rv_tmp rfl rfl)) ⟨_, rfl, ?_⟩
                 have hnf : ¬ fdQ l Q x y u := fun h_ => by
                  have h1_ := h_.1; have h2_ := h_.2; rw [hpi] at h1_ h2_
                  first | omega | exact absurd ((wl12_eq (evF.x hxf (i := k) (by omega)) (evF.y hxf (i := k) (by omega)) (evF.u hxf (i := k) (by omega)) fx_ fy_ fu_).2 h2_) (by assumption)
                 have hS : ¬ putS l Q x y u n := fun h_ => by first | exact absurd h_.1.1 (by assumption) | exact absurd h_.1.2.1 (by assumption) | exact absurd h_.1.2.2 (by assumption) | exact h_.2.elim hnf (fun h_ => by omega)
                 refine ⟨none, 0, fun _ => (none, 0), ?_⟩
                 rw [putN_f hS, show decide (putS l Q x y u n) = false from decide_eq_false hS]
                 exact ⟨rfl, E59, NO.nil E59.size (Nat.le_refl _)⟩
               · refine rk_cf (T rfl (qF hb113)) <| rk_skip ?_
                 have hS : putS l Q x y u n := ⟨⟨by assumption, by assumption, by assumption⟩, .inr (by omega)⟩
                 refine rk_reg <| lw_v (.slice (some ⟨gt25, 0, none⟩) l ct22) (dv_move (T rfl f39)) <| lw_v (qi (k : Int)) (dv_move (T rfl f40)) <| lw_v (.agg (qA x y u)) (dv_loads (l := (qL x y u)) agt35 sz35 (T rfl f36) H61 rfl) <| lw_v (.agg (qB x y u (.slice none 0 0))) (dv_build (pv := [(0, .agg (qA x y u))]) (l := (qM x y u (.slice none 0 0))) zc56 pl56 ⟨rfl, (T rfl rfl), trivial⟩ rfl) <| lw_e (oe_buildSlice (pv := [(0, .agg (qB x y u (.slice none 0 0)))]) (init := [qu 0, qu 0, qu 0, qu 0, qu 0, qu 0, qu 0, qu 0, qu 0, qu 0, qu 0, qu 0, .slice none 0 0]) (l := (qM x y u (.slice none 0 0))) us29 sz56 rfl rfl zc56 (by kernel_rfl) ⟨rfl, (T rfl rfl), trivial⟩ rfl ?_)
                 intro b114 w115 n116
                 have N117 : w.heap.size ≤ b114 := n116.eq ▸ E59.size
                 have : b1 < b114 := n116.eq ▸ lt_of_blk H61
                 have := n116.eq; have := n116.size
                 have := Below.fresh n116.ext
                 have E118 := below_ext E59 E59.size n116.ext
                 have h119 := (h60.ext n116.ext)
                 refine lw_e (oe_callf (vs := [.slice (some ⟨gt25, 0, none⟩) l ct22, qi (k : Int), .slice (some ⟨b114, 0, none⟩) 1 1]) co27 (ar3 (T rfl rfl) (T rfl rfl) (T rfl rfl)) (insE_ok (x := x) (y := y) (u := u) (i := k) h119 n116.blk (by omega) (by omega) (by omega)) ?_)
                 rintro _ w126 ⟨g120, c121, Q122, S123, rfl, e127, hQ124, hN125⟩
                 have E128 := below_bl E118 E18.size e127
                 refine lw_v (.slice (some ⟨g120, 0, none⟩) (l + 1) c121) (dv_assign (T rfl rfl)) <| lw_nil <| rk_seq <| rk_seq <| rk_reg <| lw_v (.slice (some ⟨g120, 0, none⟩) (l + 1) c121) (dv_move (T rfl rfl)) <| lw_v (qi (k : Int)) (dv_move (T rfl f40)) <| lw_v (.pointer (some ⟨g120, 0 + k * 13, none⟩)) (dv_indexM (g := g120) (o := 0) (l := l + 1) (c := c121) (i := k) (j := (k : Int)) (m := 13) us29 sz56 (T rfl rfl) (T rfl rfl) (by omega) (by first | omega | (simp; done) | (simp; omega))) <| lw_v (.pointer (some ⟨g120, 0 + k * 13, none⟩)) (dv_assign (T rfl rfl)) <| lw_nil <| rk_seq ?_
                 obtain ⟨As129, hAs131⟩ : ∃ q_ : Option Addr, q_ = (S123 k).1 := ⟨_, rfl⟩
                 obtain ⟨cs130, hcs132⟩ : ∃ q_ : Nat, q_ = (S123 k).2 := ⟨_, rfl⟩
                 have hes0_ : (Q122 k).es = [] := by rw [hQ124, insF_at]
                 have hes_ : (Q122 k).es.length ≤ 40 := by rw [hes0_]; decide
                 refine rk_reg <| lw_v (.pointer (some ⟨g120, 0 + k * 13, none⟩)) (dv_move (T rfl rfl)) <| lw_v (.pointer (some ⟨g120, 0 + k * 13, none⟩)) (dv_nilCheck (T rfl rfl)) <| lw_v (.pointer (some ⟨g120, 0 + (k * 13 + 12), none⟩)) (dv_fieldW (g := g120) (o := 0) (i := k * 13) fo56_1 (T rfl rfl)) <| lw_v (.slice As129 ((Q122 k).es.length) cs130) (dv_load agt41 (T rfl rfl) (NR.slA (i := k) hN125.nr (by first | omega | (simp; done) | (simp; omega)) hAs131 hcs132)) <| lw_v (qi n) (dv_move (T rfl f35)) <| lw_e (oe_callf (vs := [.slice As129 ((Q122 k).es.length) cs130, qi n]) co28 (ar2 (T rfl rfl) (T rfl rfl)) (containsI_ok (x := n) (c := cs130) (NR.rdA (i := k) hN125.nr (by first | omega | (simp; done) | (simp; omega)) hAs131) rfl (by omega)) ?_)
                 rintro _ w133 ⟨rfl, e134⟩
                 have := Below.fresh e134
                 have E135 := below_ext E128 E128.size e134
                 refine lw_v (qd (¬ (n ∈ (Q122 k).es))) (dv_notd (p := n ∈ (Q122 k).es) (T rfl rfl)) <| lw_nil ?_
                 by_cases hb136 : n ∈ (Q122 k).es
                 · refine rk_cf (T rfl (congrArg Value.bool (decide_eq_false (not_not_intro hb136)))) <| rk_skip <| rk_seq <| rk_reg <| lw_v (.slice (some ⟨g120, 0, none⟩) (l + 1) c121) (dv_move (T rfl rfl)) <| lw_v (.slice (some ⟨g120, 0, none⟩) (l + 1) c121) (dv_assign (T rfl rfl)) <| lw_v (.bool true) (dv_assign C) <| lw_nil <| rk_ret Tryz.func8 (v := .tuple #[.slice (some ⟨g120, 0, none⟩) (l + 1) c121, .bool true]) (res2 Tryz.results8 (rv_tmp rfl rfl) (rv_tmp rfl rfl)) ⟨_, rfl, ?_⟩
                   have h137 := (hN125.ext e134)
                   exact absurd (hes0_ ▸ (by assumption : n ∈ (Q122 k).es)) (List.not_mem_nil)
                 · refine rk_ct (T rfl (qT hb136)) <| rk_seq <| rk_reg <| lw_v (.pointer (some ⟨g120, 0 + k * 13, none⟩)) (dv_move (T rfl rfl)) <| lw_v (.pointer (some ⟨g120, 0 + k * 13, none⟩)) (dv_move (T rfl rfl)) <| lw_v (.pointer (some ⟨g120, 0 + k * 13, none⟩)) (dv_nilCheck (T rfl rfl)) <| lw_v (.pointer (some ⟨g120, 0 + (k * 13 + 12), none⟩)) (dv_fieldW (g := g120) (o := 0) (i := k * 13) fo56_1 (T rfl rfl)) ?_
                   have h138 := (hN125.ext e134)
                   refine lw_v (.slice As129 ((Q122 k).es.length) cs130) (dv_load agt41 (T rfl rfl) (NR.slA (i := k) h138.nr (by first | omega | (simp; done) | (simp; omega)) hAs131 hcs132)) <| lw_v (qi n) (dv_move (T rfl f35)) <| lw_e (oe_buildSlice (pv := [(0, qi n)]) (init := [qi 0]) (l := [qi n]) us41 sz2 rfl rfl zc2 (by kernel_rfl) ⟨rfl, (T rfl rfl), trivial⟩ rfl ?_)
                   intro b139 w140 n141
                   have N142 : w.heap.size ≤ b139 := n141.eq ▸ E135.size
                   have H143 := (e134.blk (bl_blk e127 (n116.ext.blk H61) (by omega)))
                   have : b1 < b139 := n141.eq ▸ lt_of_blk H143
                   have := n141.eq; have := n141.size
                   have := Below.fresh n141.ext
                   have E144 := below_ext E135 E135.size n141.ext
                   have h145 := (h138.ext n141.ext)
                   refine lw_e (oe_appendI (lo := w16.heap.size) (hi := w126.heap.size) (i := k) (z := n) us41 in2 (T rfl rfl) (T rfl rfl) h145 (by decide) (by omega) hAs131 rfl hcs132 n141.blk (by omega) (by omega) ?_)
                   intro Ad146 c147 w148 hH149 hO150 x151
                   have E152 := below_bl E144 E18.size x151
                   refine lw_v (.pointer (some ⟨g120, 0 + k * 13, none⟩)) (dv_nilCheck (T rfl rfl)) <| lw_v (.pointer (some ⟨g120, 0 + (k * 13 + 12), none⟩)) (dv_fieldW (g := g120) (o := 0) (i := k * 13) fo56_1 (T rfl rfl)) <| lw_e (oe_storeI (lo := w16.heap.size) (hi := w148.heap.size) (g := g120) (i := k) (L := ((Q122 k).es ++ [n])) sz41 (T rfl rfl) (T rfl rfl) hH149 hO150 (by rw [List.length_append]; rfl) (by decide) (by omega) ?_)
                   intro w153 hN154 x155 hs156
                   have E157 := below_bl E152 E18.size x155
                   refine lw_nil <| rk_reg <| lw_v (.pointer (some ⟨g120, 0 + k * 13, none⟩)) (dv_move (T rfl rfl)) <| lw_v (.pointer (some ⟨g120, 0 + k * 13, none⟩)) (dv_nilCheck (T rfl rfl)) <| lw_v (.pointer (some ⟨g120, 0 + (k * 13 + 12), none⟩)) (dv_fieldW (g := g120) (o := 0) (i := k * 13) fo56_1 (T rfl rfl)) <| lw_v (.slice Ad146 (((updA (fun i_ => (Q122 i_).es) k (((Q122 k).es ++ [n]))) k).length) c147) (dv_load agt41 (T rfl rfl) (NR.slA (i := k) hN154.nr (by first | omega | (simp; done) | (simp; omega)) (by rw [updA_same]) (by rw [updA_same]))) <| lw_e (oe_callf (vs := [.slice Ad146 (((updA (fun i_ => (Q122 i_).es) k (((Q122 k).es ++ [n]))) k).length) c147]) co29 (ar1 (T rfl rfl)) (sortI_ok (i := k) hN154 (by omega) (by rw [updA_same]) (by rw [updA_same]) rfl (by have := hes_; rw [updA_same, List.length_append, List.length_singleton]; omega) (by have := hes_; rw [updA_same, List.length_append, List.length_singleton]; omega)) ?_)
                   rintro _ w159 ⟨rfl, e160, hN158⟩
                   have E161 := below_bl E157 E18.size e160
                   refine qN <| lw_v (.slice (some ⟨g120, 0, none⟩) (l + 1) c121) (dv_move (T rfl rfl)) <| lw_v (.slice (some ⟨g120, 0, none⟩) (l + 1) c121) (dv_assign (T rfl rfl)) <| lw_v (.bool true) (dv_assign C) <| lw_nil <| rk_ret Tryz.func8 (v := .tuple #[.slice (some ⟨g120, 0, none⟩) (l + 1) c121, .bool true]) (res2 Tryz.results8 (rv_tmp rfl rfl) (rv_tmp rfl rfl)) ⟨_, rfl, ?_⟩
                   obtain ⟨e1_, e2_⟩ := putE_n (n := n) hnf hpi
                   rw [← hQ124] at e1_ e2_
                   refine ⟨some ⟨g120, 0, none⟩, c121, ((updA S123 k (Ad146, c147))), ?_⟩
                   rw [putN_n hS hnf, show decide (putS l Q x y u n) = true from decide_eq_true hS]
                   exact ⟨rfl, E161, (hN158.no.lo_le (by omega)).congr (fun i_ _ j_ _ => congrFun (e1_ i_) j_) (fun i_ _ => (e2_ i_).trans (by rw [sortE (E0 := fun i_ => (Q122 i_).es) (k := k) (n := n) (by show riseP (Q122 k).es; rw [hes0_]; exact riseP_nil) (by assumption) i_, hes0_]; rfl))⟩
             · refine rk_cf (T rfl (qF hb112)) <| rk_skip <| rk_seq <| rk_seq <| rk_reg <| lw_v (.slice (some ⟨gt25, 0, none⟩) l ct22) (dv_move (T rfl f39)) <| lw_v (qi (k : Int)) (dv_move (T rfl f40)) <| lw_v (.pointer (some ⟨gt25, 0 + k * 13, none⟩)) (dv_indexM (g := gt25) (o := 0) (l := l) (c := ct22) (i := k) (j := (k : Int)) (m := 13) us29 sz56 (T rfl rfl) (T rfl rfl) (by omega) (by first | omega | (simp; done) | (simp; omega))) <| lw_v (.pointer (some ⟨gt25, 0 + k * 13, none⟩)) (dv_assign (T rfl rfl)) <| lw_nil <| rk_seq ?_
               obtain ⟨As162, hAs164⟩ : ∃ q_ : Option Addr, q_ = (St23 k).1 := ⟨_, rfl⟩
               obtain ⟨cs163, hcs165⟩ : ∃ q_ : Nat, q_ = (St23 k).2 := ⟨_, rfl⟩
               have hfd : fdQ l Q x y u := by
                unfold fdQ; rw [hpi]; exact ⟨by omega, (wl12_eq (evF.x hxf (i := k) (by omega)) (evF.y hxf (i := k) (by omega)) (evF.u hxf (i := k) (by omega)) fx_ fy_ fu_).1 (by first | assumption | exact Decidable.not_not.1 (by assumption))⟩
               have hS : putS l Q x y u n := ⟨⟨by assumption, by assumption, by assumption⟩, .inl hfd⟩
               have hrs_ := (hev_.2 k (by omega)).2.2.1; have hes_ := rise_len hrs_
               refine rk_reg <| lw_v (.pointer (some ⟨gt25, 0 + k * 13, none⟩)) (dv_move (T rfl rfl)) <| lw_v (.pointer (some ⟨gt25, 0 + k * 13, none⟩)) (dv_nilCheck (T rfl rfl)) <| lw_v (.pointer (some ⟨gt25, 0 + (k * 13 + 12), none⟩)) (dv_fieldW (g := gt25) (o := 0) (i := k * 13) fo56_1 (T rfl rfl)) <| lw_v (.slice As162 ((Q k).es.length) cs163) (dv_load agt41 (T rfl rfl) (NR.slA (i := k) h60.nr (by first | omega | (simp; done) | (simp; omega)) hAs164 hcs165)) <| lw_v (qi n) (dv_move (T rfl f35)) <| lw_e (oe_callf (vs := [.slice As162 ((Q k).es.length) cs163, qi n]) co28 (ar2 (T rfl rfl) (T rfl rfl)) (containsI_ok (x := n) (c := cs163) (NR.rdA (i := k) h60.nr (by first | omega | (simp; done) | (simp; omega)) hAs164) rfl (by omega)) ?_)
               rintro _ w166 ⟨rfl, e167⟩
               have := Below.fresh e167
               have E168 := below_ext E59 E59.size e167
               refine lw_v (qd (¬ (n ∈ (Q k).es))) (dv_notd (p := n ∈ (Q k).es) (T rfl rfl)) <| lw_nil ?_
               by_cases hb169 : n ∈ (Q k).es
               · refine rk_cf (T rfl (congrArg Value.bool (decide_eq_false (not_not_intro hb169)))) <| rk_skip <| rk_seq <| rk_reg <| lw_v (.slice (some ⟨gt25, 0, none⟩) l ct22) (dv_move (T rfl f39)) <| lw_v (.slice (some ⟨gt25, 0, none⟩) l ct22) (dv_assign (T rfl rfl)) <| lw_v (.bool true) (dv_assign C) <| lw_nil <| rk_ret Tryz.func8 (v := .tuple #[.slice (some ⟨gt25, 0, none⟩) l ct22, .bool true]) (res2 Tryz.results8 (rv_tmp rfl rfl) (rv_tmp rfl rfl)) ⟨_, rfl, ?_⟩
                 have h170 := (h60.ext e167)
                 obtain ⟨e1_, e2_⟩ := putE_d (n := n) hfd hpi
                 refine ⟨some ⟨gt25, 0, none⟩, ct22, St23, ?_⟩
                 rw [putN_d hS hfd, show decide (putS l Q x y u n) = true from decide_eq_true hS]
                 exact ⟨rfl, E168, (h170.no.lo_le (by omega)).congr (fun i_ _ j_ _ => congrFun (e1_ i_) j_) (fun i_ _ => (e2_ i_).trans (by split <;> first | rfl | (rename_i h_; rw [h_, with_mem hrs_ (by assumption)])))⟩
               · refine rk_ct (T rfl (qT hb169)) <| rk_seq <| rk_reg <| lw_v (.pointer (some ⟨gt25, 0 + k * 13, none⟩)) (dv_move (T rfl rfl)) <| lw_v (.pointer (some ⟨gt25, 0 + k * 13, none⟩)) (dv_move (T rfl rfl)) <| lw_v (.pointer (some ⟨gt25, 0 + k * 13, none⟩)) (dv_nilCheck (T rfl rfl)) <| lw_v (.pointer (some ⟨gt25, 0 + (k * 13 + 12), none⟩)) (dv_fieldW (g := gt25) (o := 0) (i := k * 13) fo56_1 (T rfl rfl)) ?_
                 have h171 := (h60.ext e167)
                 refine lw_v (.slice As162 ((Q k).es.length) cs163) (dv_load agt41 (T rfl rfl) (NR.slA (i := k) h171.nr (by first | omega | (simp; done) | (simp; omega)) hAs164 hcs165)) <| lw_v (qi n) (dv_move (T rfl f35)) <| lw_e (oe_buildSlice (pv := [(0, qi n)]) (init := [qi 0]) (l := [qi n]) us41 sz2 rfl rfl zc2 (by kernel_rfl) ⟨rfl, (T rfl rfl), trivial⟩ rfl ?_)
                 intro b172 w173 n174
                 have N175 : w.heap.size ≤ b172 := n174.eq ▸ E168.size
                 have H176 := (e167.blk H61)
                 have : b1 < b172 := n174.eq ▸ lt_of_blk H176
                 have := n174.eq; have := n174.size
                 have := Below.fresh n174.ext
                 have E177 := below_ext E168 E168.size n174.ext
                 have h178 := (h171.ext n174.ext)
                 refine lw_e (oe_appendI (lo := w16.heap.size) (hi := w26.heap.size) (i := k) (z := n) us41 in2 (T rfl rfl) (T rfl rfl) h178 (by decide) (by omega) hAs164 rfl hcs165 n174.blk (by omega) (by omega) ?_)
                 intro Ad179 c180 w181 hH182 hO183 x184
                 have E185 := below_bl E177 E18.size x184
                 refine lw_v (.pointer (some ⟨gt25, 0 + k * 13, none⟩)) (dv_nilCheck (T rfl rfl)) <| lw_v (.pointer (some ⟨gt25, 0 + (k * 13 + 12), none⟩)) (dv_fieldW (g := gt25) (o := 0) (i := k * 13) fo56_1 (T rfl rfl)) <| lw_e (oe_storeI (lo := w16.heap.size) (hi := w181.heap.size) (g := gt25) (i := k) (L := ((Q k).es ++ [n])) sz41 (T rfl rfl) (T rfl rfl) hH182 hO183 (by rw [List.length_append]; rfl) (by decide) (by omega) ?_)
                 intro w186 hN187 x188 hs189
                 have E190 := below_bl E185 E18.size x188
                 refine lw_nil <| rk_reg <| lw_v (.pointer (some ⟨gt25, 0 + k * 13, none⟩)) (dv_move (T rfl rfl)) <| lw_v (.pointer (some ⟨gt25, 0 + k * 13, none⟩)) (dv_nilCheck (T rfl rfl)) <| lw_v (.pointer (some ⟨gt25, 0 + (k * 13 + 12), none⟩)) (dv_fieldW (g := gt25) (o := 0) (i := k * 13) fo56_1 (T rfl rfl)) <| lw_v (.slice Ad179 (((updA (fun i_ => (Q i_).es) k (((Q k).es ++ [n]))) k).length) c180) (dv_load agt41 (T rfl rfl) (NR.slA (i := k) hN187.nr (by first | omega | (simp; done) | (simp; omega)) (by rw [updA_same]) (by rw [updA_same]))) <| lw_e (oe_callf (vs := [.slice Ad179 (((updA (fun i_ => (Q i_).es) k (((Q k).es ++ [n]))) k).length) c180]) co29 (ar1 (T rfl rfl)) (sortI_ok (i := k) hN187 (by omega) (by rw [updA_same]) (by rw [updA_same]) rfl (by have := hes_; rw [updA_same, List.length_append, List.length_singleton]; omega) (by have := hes_; rw [updA_same, List.length_append, List.length_singleton]; omega)) ?_)
                 rintro _ w192 ⟨rfl, e193, hN191⟩
                 have E194 := below_bl E190 E18.size e193
                 refine qN <| lw_v (.slice (some ⟨gt25, 0, none⟩) l ct22) (dv_move (T rfl f39)) <| lw_v (.slice (some ⟨gt25, 0, none⟩) l ct22) (dv_assign (T rfl rfl)) <| lw_v (.bool true) (dv_assign C) <| lw_nil <| rk_ret Tryz.func8 (v := .tuple #[.slice (some ⟨gt25, 0, none⟩) l ct22, .bool true]) (res2 Tryz.results8 (rv_tmp rfl rfl) (rv_tmp rfl rfl)) ⟨_, rfl, ?_⟩
                 obtain ⟨e1_, e2_⟩ := putE_d (n := n) hfd hpi
                 refine ⟨some ⟨gt25, 0, none⟩, ct22, ((updA St23 k (Ad179, c180))), ?_⟩
                 rw [putN_d hS hfd, show decide (putS l Q x y u n) = true from decide_eq_true hS]
                 exact ⟨rfl, E194, (hN191.no.lo_le (by omega)).congr (fun i_ _ j_ _ => congrFun (e1_ i_) j_) (fun i_ _ => (e2_ i_).trans ((sortE (E0 := fun i_ => (Q i_).es) (k := k) (n := n) hrs_ (by assumption) i_).symm))⟩
       · refine aw_no 5 rfl (by kernel_rfl) (d := 30) rfl rfl (qF hb50) ⟨h48.nr, H49⟩ <| aw_no 6 rfl (by kernel_rfl) (d := 30) rfl rfl (qF hb50) ⟨h48.nr, H49⟩ <| aw_no 7 rfl (by kernel_rfl) (d := 30) rfl rfl (qF hb50) ⟨h48.nr, H49⟩ <| aw_no 8 rfl (by kernel_rfl) (d := 30) rfl rfl (qF hb50) ⟨h48.nr, H49⟩ <| aw_no 9 rfl (by kernel_rfl) (d := 30) rfl rfl (qF hb50) ⟨h48.nr, H49⟩ <| aw_no 10 rfl (by kernel_rfl) (d := 30) rfl rfl (qF hb50) ⟨h48.nr, H49⟩ <| aw_no 11 rfl (by kernel_rfl) (d := 30) rfl rfl (qF hb50) ⟨h48.nr, H49⟩ <| aw_no 12 rfl (by kernel_rfl) (d := 30) rfl rfl (qF hb50) ⟨h48.nr, H49⟩ <| aw_pure 13 (.bool false) rfl (by kernel_rfl) .none ⟨h48.nr, H49⟩ (fun _ => dv_pick_f (T rfl (qF hb50)) C) <| aw_done (by kernel_rfl) <| rk_cf (T rfl rfl) ?_
         refine rk_exit rfl <| rk_seq <| rk_seq ?_
         have hpi : pidx l Q x y u = k := pidx_eq hk_ hlt (by first | exact .inl (by omega) | exact .inr (by first | assumption | omega))
         have hlh_ := h48.lh
         refine rk_any (fun w => NR w w16.heap.size w26.heap.size (some ⟨gt25, 0, none⟩) l (fun i_ => evW (Q i_)) (fun i_ => (Q i_).es) St23 ∧ w.heap[b1]? = some (.cells (qA x y u) 35)) [] mo ?_
         intro w195 d196
         have := Below.fresh d196.ext
         have E197 := below_ext E47 E47.size d196.ext
         have h198 := (h48.ext d196.ext)
         have H199 := (d196.ext.blk H49)
         refine aw_pure 0 (qi (k : Int)) rfl (by kernel_rfl) .none ⟨h198.nr, H199⟩ (fun _ => dv_move (T rfl f40)) <| aw_pure 1 (.slice (some ⟨gt25, 0, none⟩) l ct22) rfl (by kernel_rfl) .none ⟨h198.nr, H199⟩ (fun _ => dv_move (T rfl f39)) <| aw_pure 2 (qi (l : Int)) rfl (by kernel_rfl) .none ⟨h198.nr, H199⟩ (fun _ => dv_len (ad := some ⟨gt25, 0, none⟩) (l := l) (c := ct22) us29 (T rfl rfl)) <| aw_pure 3 (qd ((k : Int) = (l : Int))) rfl (by kernel_rfl) .none ⟨h198.nr, H199⟩ (fun _ => dv_eql (a := (k : Int)) (b := (l : Int)) (T rfl rfl) (T rfl rfl)) <| aw_pure 4 (qd ((k : Int) = (l : Int))) rfl (by kernel_rfl) .none ⟨h198.nr, H199⟩ (fun _ => dv_move (T rfl rfl)) ?_
         by_cases hb200 : ((k : Int)) = ((l : Int))
         · refine aw_no 5 rfl (by kernel_rfl) (d := 46) rfl rfl (qT hb200) ⟨h198.nr, H199⟩ <| aw_no 6 rfl (by kernel_rfl) (d := 46) rfl rfl (qT hb200) ⟨h198.nr, H199⟩ <| aw_no 7 rfl (by kernel_rfl) (d := 46) rfl rfl (qT hb200) ⟨h198.nr, H199⟩ <| aw_no 8 rfl (by kernel_rfl) (d := 46) rfl rfl (qT hb200) ⟨h198.nr, H199⟩ <| aw_no 9 rfl (by kernel_rfl) (d := 46) rfl rfl (qT hb200) ⟨h198.nr, H199⟩ <| aw_no 10 rfl (by kernel_rfl) (d := 46) rfl rfl (qT hb200) ⟨h198.nr, H199⟩ <| aw_no 11 rfl (by kernel_rfl) (d := 46) rfl rfl (qT hb200) ⟨h198.nr, H199⟩ <| aw_pure 12 (.bool true) rfl (by kernel_rfl) .none ⟨h198.nr, H199⟩ (fun _ => dv_pick_t (T rfl (qT hb200)) C) <| aw_done (by kernel_rfl) <| rk_ct (T rfl rfl) <| rk_seq ?_
           refine rk_seq ?_
           have hnf : ¬ fdQ l Q x y u := fun h_ => by
            have h1_ := h_.1; have h2_ := h_.2; rw [hpi] at h1_ h2_
            first | omega | exact absurd ((wl12_eq (evF.x hxf (i := k) (by omega)) (evF.y hxf (i := k) (by omega)) (evF.u hxf (i := k) (by omega)) fx_ fy_ fu_).2 h2_) (by assumption)
           refine rk_reg <| lw_v (.slice (some ⟨gt25, 0, none⟩) l ct22) (dv_move (T rfl f39)) <| lw_v (qi (l : Int)) (dv_len (ad := some ⟨gt25, 0, none⟩) (l := l) (c := ct22) us29 (T rfl rfl)) <| lw_v (qd ((l : Int) = 200)) (dv_eql (a := (l : Int)) (b := 200) (T rfl rfl) C) <| lw_nil ?_
           by_cases hb201 : ((l : Int)) = 200
           · refine rk_ct (T rfl (qT hb201)) <| rk_seq <| rk_reg <| lw_v (.slice none 0 0) (dv_assign C) <| lw_v (.bool false) (dv_assign C) <| lw_nil <| rk_ret Tryz.func8 (v := .tuple #[.slice none 0 0, .bool false]) (res2 Tryz.results8 (rv_tmp rfl rfl) (rv_tmp rfl rfl)) ⟨_, rfl, ?_⟩
             have hnf : ¬ fdQ l Q x y u := fun h_ => by
              have h1_ := h_.1; have h2_ := h_.2; rw [hpi] at h1_ h2_
              first | omega | exact absurd ((wl12_eq (evF.x hxf (i := k) (by omega)) (evF.y hxf (i := k) (by omega)) (evF.u hxf (i := k) (by omega)) fx_ fy_ fu_).2 h2_) (by assumption)
             have hS : ¬ putS l Q x y u n := fun h_ => by first | exact absurd h_.1.1 (by assumption) | exact absurd h_.1.2.1 (by assumption) | exact absurd h_.1.2.2 (by assumption) | exact h_.2.elim hnf (fun h_ => by omega)
             refine ⟨none, 0, fun _ => (none, 0), ?_⟩
             rw [putN_f hS, show decide (putS l Q x y u n) = false from decide_eq_false hS]
             exact ⟨rfl, E197, NO.nil E197.size (Nat.le_refl _)⟩
           · refine rk_cf (T rfl (qF hb201)) <| rk_skip ?_
             have hS : putS l Q x y u n := ⟨⟨by assumption, by assumption, by assumption⟩, .inr (by omega)⟩
             refine rk_reg <| lw_v (.slice (some ⟨gt25, 0, none⟩) l ct22) (dv_move (T rfl f39)) <| lw_v (qi (k : Int)) (dv_move (T rfl f40)) <| lw_v (.agg (qA x y u)) (dv_loads (l := (qL x y u)) agt35 sz35 (T rfl f36) H199 rfl) <| lw_v (.agg (qB x y u (.slice none 0 0))) (dv_build (pv := [(0, .agg (qA x y u))]) (l := (qM x y u (.slice none 0 0))) zc56 pl56 ⟨rfl, (T rfl rfl), trivial⟩ rfl) <| lw_e (oe_buildSlice (pv := [(0, .agg (qB x y u (.slice none 0 0)))]) (init := [qu 0, qu 0, qu 0, qu 0, qu 0, qu 0, qu 0, qu 0, qu 0, qu 0, qu 0, qu 0, .slice none 0 0]) (l := (qM x y u (.slice none 0 0))) us29 sz56 rfl rfl zc56 (by kernel_rfl) ⟨rfl, (T rfl rfl), trivial⟩ rfl ?_)
             intro b202 w203 n204
             have N205 : w.heap.size ≤ b202 := n204.eq ▸ E197.size
             have : b1 < b202 := n204.eq ▸ lt_of_blk H199
             have := n204.eq; have := n204.size
             have := Below.fresh n204.ext
             have E206 := below_ext E197 E197.size n204.ext
             have h207 := (h198.ext n204.ext)
             refine lw_e (oe_callf (vs := [.slice (some ⟨gt25, 0, none⟩) l ct22, qi (k : Int), .slice (some ⟨b202, 0, none⟩) 1 1]) co27 (ar3 (T rfl rfl) (T rfl rfl) (T rfl rfl)) (insE_ok (x := x) (y := y) (u := u) (i := k) h207 n204.blk (by omega) (by omega) (by omega)) ?_)
             rintro _ w214 ⟨g208, c209, Q210, S211, rfl, e215, hQ212, hN213⟩
             have E216 := below_bl E206 E18.size e215
             refine lw_v (.slice (some ⟨g208, 0, none⟩) (l + 1) c209) (dv_assign (T rfl rfl)) <| lw_nil <| rk_seq <| rk_seq <| rk_reg <| lw_v (.slice (some ⟨g208, 0, none⟩) (l + 1) c209) (dv_move (T rfl rfl)) <| lw_v (qi (k : Int)) (dv_move (T rfl f40)) <| lw_v (.pointer (some ⟨g208, 0 + k * 13, none⟩)) (dv_indexM (g := g208) (o := 0) (l := l + 1) (c := c209) (i := k) (j := (k : Int)) (m := 13) us29 sz56 (T rfl rfl) (T rfl rfl) (by omega) (by first | omega | (simp; done) | (simp; omega))) <| lw_v (.pointer (some ⟨g208, 0 + k * 13, none⟩)) (dv_assign (T rfl rfl)) <| lw_nil <| rk_seq ?_
             obtain ⟨As217, hAs219⟩ : ∃ q_ : Option Addr, q_ = (S211 k).1 := ⟨_, rfl⟩
             obtain ⟨cs218, hcs220⟩ : ∃ q_ : Nat, q_ = (S211 k).2 := ⟨_, rfl⟩
             have hes0_ : (Q210 k).es = [] := by rw [hQ212, insF_at]
             have hes_ : (Q210 k).es.length ≤ 40 := by rw [hes0_]; decide
             refine rk_reg <| lw_v (.pointer (some ⟨g208, 0 + k * 13, none⟩)) (dv_move (T rfl rfl)) <| lw_v (.pointer (some ⟨g208, 0 + k * 13, none⟩)) (dv_nilCheck (T rfl rfl)) <| lw_v (.pointer (some ⟨g208, 0 + (k * 13 + 12), none⟩)) (dv_fieldW (g := g208) (o := 0) (i := k * 13) fo56_1 (T rfl rfl)) <| lw_v (.slice As217 ((Q210 k).es.length) cs218) (dv_load agt41 (T rfl rfl) (NR.slA (i := k) hN213.nr (by first | omega | (simp; done) | (simp; omega)) hAs219 hcs220)) <| lw_v (qi n) (dv_move (T rfl f35)) <| lw_e (oe_callf (vs := [.slice As217 ((Q210 k).es.length) cs218, qi n]) co28 (ar2 (T rfl rfl) (T rfl rfl)) (containsI_ok (x := n) (c := cs218) (NR.rdA (i := k) hN213.nr (by first | omega | (simp; done) | (simp; omega)) hAs219) rfl (by omega)) ?_)
             rintro _ w221 ⟨rfl, e222⟩
             have := Below.fresh e222
             have E223 := below_ext E216 E216.size e222
             refine lw_v (qd (¬ (n ∈ (Q210 k).es))) (dv_notd (p := n ∈ (Q210 k).es) (T rfl rfl)) <| lw_nil ?_
             by_cases hb224 : n ∈ (Q210 k).es
             · refine rk_cf (T rfl (congrArg Value.bool (decide_eq_false (not_not_intro hb224)))) <| rk_skip <| rk_seq <| rk_reg <| lw_v (.slice (some ⟨g208, 0, none⟩) (l + 1) c209) (dv_move (T rfl rfl)) <| lw_v (.slice (some ⟨g208, 0, none⟩) (l + 1) c209) (dv_assign (T rfl rfl)) <| lw_v (.bool true) (dv_assign C) <| lw_nil <| rk_ret Tryz.func8 (v := .tuple #[.slice (some ⟨g208, 0, none⟩) (l + 1) c209, .bool true]) (res2 Tryz.results8 (rv_tmp rfl rfl) (rv_tmp rfl rfl)) ⟨_, rfl, ?_⟩
               have h225 := (hN213.ext e222)
               exact absurd (hes0_ ▸ (by assumption : n ∈ (Q210 k).es)) (List.not_mem_nil)
             · refine rk_ct (T rfl (qT hb224)) <| rk_seq <| rk_reg <| lw_v (.pointer (some ⟨g208, 0 + k * 13, none⟩)) (dv_move (T rfl rfl)) <| lw_v (.pointer (some ⟨g208, 0 + k * 13, none⟩)) (dv_move (T rfl rfl)) <| lw_v (.pointer (some ⟨g208, 0 + k * 13, none⟩)) (dv_nilCheck (T rfl rfl)) <| lw_v (.pointer (some ⟨g208, 0 + (k * 13 + 12), none⟩)) (dv_fieldW (g := g208) (o := 0) (i := k * 13) fo56_1 (T rfl rfl)) ?_
               have h226 := (hN213.ext e222)
               refine lw_v (.slice As217 ((Q210 k).es.length) cs218) (dv_load agt41 (T rfl rfl) (NR.slA (i := k) h226.nr (by first | omega | (simp; done) | (simp; omega)) hAs219 hcs220)) <| lw_v (qi n) (dv_move (T rfl f35)) <| lw_e (oe_buildSlice (pv := [(0, qi n)]) (init := [qi 0]) (l := [qi n]) us41 sz2 rfl rfl zc2 (by kernel_rfl) ⟨rfl, (T rfl rfl), trivial⟩ rfl ?_)
               intro b227 w228 n229
               have N230 : w.heap.size ≤ b227 := n229.eq ▸ E223.size
               have H231 := (e222.blk (bl_blk e215 (n204.ext.blk H199) (by omega)))
               have : b1 < b227 := n229.eq ▸ lt_of_blk H231
               have := n229.eq; have := n229.size
               have := Below.fresh n229.ext
               have E232 := below_ext E223 E223.size n229.ext
               have h233 := (h226.ext n229.ext)
               refine lw_e (oe_appendI (lo := w16.heap.size) (hi := w214.heap.size) (i := k) (z := n) us41 in2 (T rfl rfl) (T rfl rfl) h233 (by decide) (by omega) hAs219 rfl hcs220 n229.blk (by omega) (by omega) ?_)
               intro Ad234 c235 w236 hH237 hO238 x239
               have E240 := below_bl E232 E18.size x239
               refine lw_v (.pointer (some ⟨g208, 0 + k * 13, none⟩)) (dv_nilCheck (T rfl rfl)) <| lw_v (.pointer (some ⟨g208, 0 + (k * 13 + 12), none⟩)) (dv_fieldW (g := g208) (o := 0) (i := k * 13) fo56_1 (T rfl rfl)) <| lw_e (oe_storeI (lo := w16.heap.size) (hi := w236.heap.size) (g := g208) (i := k) (L := ((Q210 k).es ++ [n])) sz41 (T rfl rfl) (T rfl rfl) hH237 hO238 (by rw [List.length_append]; rfl) (by decide) (by omega) ?_)
               intro w241 hN242 x243 hs244
               have E245 := below_bl E240 E18.size x243
               refine lw_nil <| rk_reg <| lw_v (.pointer (some ⟨g208, 0 + k * 13, none⟩)) (dv_move (T rfl rfl)) <| lw_v (.pointer (some ⟨g208, 0 + k * 13, none⟩)) (dv_nilCheck (T rfl rfl)) <| lw_v (.pointer (some ⟨g208, 0 + (k * 13 + 12), none⟩)) (dv_fieldW (g := g208) (o := 0) (i := k * 13) fo56_1 (T rfl rfl)) <| lw_v (.slice Ad234 (((updA (fun i_ => (Q210 i_).es) k (((Q210 k).es ++ [n]))) k).length) c235) (dv_load agt41 (T rfl rfl) (NR.slA (i := k) hN242.nr (by first | omega | (simp; done) | (simp; omega)) (by rw [updA_same]) (by rw [updA_same]))) <| lw_e (oe_callf (vs := [.slice Ad234 (((updA (fun i_ => (Q210 i_).es) k (((Q210 k).es ++ [n]))) k).length) c235]) co29 (ar1 (T rfl rfl)) (sortI_ok (i := k) hN242 (by omega) (by rw [updA_same]) (by rw [updA_same]) rfl (by have := hes_; rw [updA_same, List.length_append, List.length_singleton]; omega) (by have := hes_; rw [updA_same, List.length_append, List.length_singleton]; omega)) ?_)
               rintro _ w247 ⟨rfl, e248, hN246⟩
               have E249 := below_bl E245 E18.size e248
               refine qN <| lw_v (.slice (some ⟨g208, 0, none⟩) (l + 1) c209) (dv_move (T rfl rfl)) <| lw_v (.slice (some ⟨g208, 0, none⟩) (l + 1) c209) (dv_assign (T rfl rfl)) <| lw_v (.bool true) (dv_assign C) <| lw_nil <| rk_ret Tryz.func8 (v := .tuple #[.slice (some ⟨g208, 0, none⟩) (l + 1) c209, .bool true]) (res2 Tryz.results8 (rv_tmp rfl rfl) (rv_tmp rfl rfl)) ⟨_, rfl, ?_⟩
               obtain ⟨e1_, e2_⟩ := putE_n (n := n) hnf hpi
               rw [← hQ212] at e1_ e2_
               refine ⟨some ⟨g208, 0, none⟩, c209, ((updA S211 k (Ad234, c235))), ?_⟩
               rw [putN_n hS hnf, show decide (putS l Q x y u n) = true from decide_eq_true hS]
               exact ⟨rfl, E249, (hN246.no.lo_le (by omega)).congr (fun i_ _ j_ _ => congrFun (e1_ i_) j_) (fun i_ _ => (e2_ i_).trans (by rw [sortE (E0 := fun i_ => (Q210 i_).es) (k := k) (n := n) (by show riseP (Q210 k).es; rw [hes0_]; exact riseP_nil) (by assumption) i_, hes0_]; rfl))⟩
         · refine aw_pure 5 (.slice (some ⟨gt25, 0, none⟩) l ct22) rfl (by kernel_rfl) (.yes (d := 46) rfl rfl (qF hb200)) ⟨h198.nr, H199⟩ (fun _ => dv_move (T rfl f39)) <| aw_pure 6 (qi (k : Int)) rfl (by kernel_rfl) (.yes (d := 46) rfl rfl (qF hb200)) ⟨h198.nr, H199⟩ (fun _ => dv_move (T rfl f40)) <| aw_pure 7 (.pointer (some ⟨gt25, 0 + k * 13, none⟩)) rfl (by kernel_rfl) (.yes (d := 46) rfl rfl (qF hb200)) ⟨h198.nr, H199⟩ (fun _ => dv_indexM (g := gt25) (o := 0) (l := l) (c := ct22) (i := k) (j := (k : Int)) (m := 13) us29 sz56 (T rfl rfl) (T rfl rfl) (by omega) (by first | omega | (simp; done) | (simp; omega))) <| aw_pure 8 (.pointer (some ⟨gt25, 0 + (k * 13), none⟩)) rfl (by kernel_rfl) (.yes (d := 46) rfl rfl (qF hb200)) ⟨h198.nr, H199⟩ (fun _ => dv_fieldW (g := gt25) (o := 0) (i := k * 13) fo56_0 (T rfl rfl)) <| aw_load 9 (.agg (qA ((Q k).x) ((Q k).y) ((Q k).u))) rfl (by kernel_rfl) (.yes (d := 46) rfl rfl (qF hb200)) ⟨h198.nr, H199⟩ (fun _ s => dv_loadsR (l := (qL ((Q k).x) ((Q k).y) ((Q k).u))) agt35 sz35 (T rfl rfl) rfl (NR.pt (i := k) s.1 (by first | omega | (simp; done) | (simp; omega)))) <| aw_load 10 (.agg (qA x y u)) rfl (by kernel_rfl) (.yes (d := 46) rfl rfl (qF hb200)) ⟨h198.nr, H199⟩ (fun _ s => dv_loads (l := (qL x y u)) agt35 sz35 (T rfl f36) s.2 rfl) <| aw_pure 11 (qd (([wv3 ((Q k).x), wv2 ((Q k).x), wv1 ((Q k).x), wv0 ((Q k).x), wv3 ((Q k).y), wv2 ((Q k).y), wv1 ((Q k).y), wv0 ((Q k).y), wv3 ((Q k).u), wv2 ((Q k).u), wv1 ((Q k).u), wv0 ((Q k).u)] : List Int) ≠ [wv3 x, wv2 x, wv1 x, wv0 x, wv3 y, wv2 y, wv1 y, wv0 y, wv3 u, wv2 u, wv1 u, wv0 u])) rfl (by kernel_rfl) (.yes (d := 46) rfl rfl (qF hb200)) ⟨h198.nr, H199⟩ (fun _ => dv_neqn (k := .u64) (la := [wv3 ((Q k).x), wv2 ((Q k).x), wv1 ((Q k).x), wv0 ((Q k).x), wv3 ((Q k).y), wv2 ((Q k).y), wv1 ((Q k).y), wv0 ((Q k).y), wv3 ((Q k).u), wv2 ((Q k).u), wv1 ((Q k).u), wv0 ((Q k).u)]) (lb := [wv3 x, wv2 x, wv1 x, wv0 x, wv3 y, wv2 y, wv1 y, wv0 y, wv3 u, wv2 u, wv1 u, wv0 u]) fl35 eg35 (T rfl rfl) (T rfl rfl) rfl rfl) <| aw_pure 12 (qd (([wv3 ((Q k).x), wv2 ((Q k).x), wv1 ((Q k).x), wv0 ((Q k).x), wv3 ((Q k).y), wv2 ((Q k).y), wv1 ((Q k).y), wv0 ((Q k).y), wv3 ((Q k).u), wv2 ((Q k).u), wv1 ((Q k).u), wv0 ((Q k).u)] : List Int) ≠ [wv3 x, wv2 x, wv1 x, wv0 x, wv3 y, wv2 y, wv1 y, wv0 y, wv3 u, wv2 u, wv1 u, wv0 u])) rfl (by kernel_rfl) .none ⟨h198.nr, H199⟩ (fun _ => dv_pick_f (T rfl (qF hb200)) (T rfl rfl)) <| aw_done (by kernel_rfl) ?_
           by_cases hb250 : ([wv3 ((Q k).x), wv2 ((Q k).x), wv1 ((Q k).x), wv0 ((Q k).x), wv3 ((Q k).y), wv2 ((Q k).y), wv1 ((Q k).y), wv0 ((Q k).y), wv3 ((Q k).u), wv2 ((Q k).u), wv1 ((Q k).u), wv0 ((Q k).u)] : List Int) ≠ [wv3 x, wv2 x, wv1 x, wv0 x, wv3 y, wv2 y, wv1 y, wv0 y, wv3 u, wv2 u, wv1 u, wv0 u]
           · refine rk_ct (T rfl (qT hb250)) <| rk_seq <| rk_seq ?_
             have hnf : ¬ fdQ l Q x y u := fun h_ => by
              have h1_ := h_.1; have h2_ := h_.2; rw [hpi] at h1_ h2_
              first | omega | exact absurd ((wl12_eq (evF.x hxf (i := k) (by omega)) (evF.y hxf (i := k) (by omega)) (evF.u hxf (i := k) (by omega)) fx_ fy_ fu_).2 h2_) (by assumption)
             refine rk_reg <| lw_v (.slice (some ⟨gt25, 0, none⟩) l ct22) (dv_move (T rfl f39)) <| lw_v (qi (l : Int)) (dv_len (ad := some ⟨gt25, 0, none⟩) (l := l) (c := ct22) us29 (T rfl rfl)) <| lw_v (qd ((l : Int) = 200)) (dv_eql (a := (l : Int)) (b := 200) (T rfl rfl) C) <| lw_nil ?_
             by_cases hb251 : ((l : Int)) = 200
             · refine rk_ct (T rfl (qT hb251)) <| rk_seq <| rk_reg <| lw_v (.slice none 0 0) (dv_assign C) <| lw_v (.bool false) (dv_assign C) <| lw_nil <| rk_ret Tryz.func8 (v := .tuple #[.slice none 0 0, .bool false]) (res2 Tryz.results8 (rv_tmp rfl rfl) (rv_tmp rfl rfl)) ⟨_, rfl, ?_⟩
               have hnf : ¬ fdQ l Q x y u := fun h_ => by
                have h1_ := h_.1; have h2_ := h_.2; rw [hpi] at h1_ h2_
                first | omega | exact absurd ((wl12_eq (evF.x hxf (i := k) (by omega)) (evF.y hxf (i := k) (by omega)) (evF.u hxf (i := k) (by omega)) fx_ fy_ fu_).2 h2_) (by assumption)
               have hS : ¬ putS l Q x y u n := fun h_ => by first | exact absurd h_.1.1 (by assumption) | exact absurd h_.1.2.1 (by assumption) | exact absurd h_.1.2.2 (by assumption) | exact h_.2.elim hnf (fun h_ => by omega)
               refine ⟨none, 0, fun _ => (none, 0), ?_⟩
               rw [putN_f hS, show decide (putS l Q x y u n) = false from decide_eq_false hS]
               exact ⟨rfl, E197, NO.nil E197.size (Nat.le_refl _)⟩
             · refine rk_cf (T rfl (qF hb251)) <| rk_skip ?_
               have hS : putS l Q x y u n := ⟨⟨by assumption, by assumption, by assumption⟩, .inr (by omega)⟩
               refine rk_reg <| lw_v (.slice (some ⟨gt25, 0, none⟩) l ct22) (dv_move (T rfl f39)) <| lw_v (qi (k : Int)) (dv_move (T rfl f40)) <| lw_v (.agg (qA x y u)) (dv_loads (l := (qL x y u)) agt35 sz35 (T rfl f36) H199 rfl) <| lw_v (.agg (qB x y u (.slice none 0 0))) (dv_build (pv := [(0, .agg (qA x y u))]) (l := (qM x y u (.slice none 0 0))) zc56 pl56 ⟨rfl, (T rfl rfl), trivial⟩ rfl) <| lw_e (oe_buildSlice (pv := [(0, .agg (qB x y u (.slice none 0 0)))]) (init := [qu 0, qu 0, qu 0, qu 0, qu 0, qu 0, qu 0, qu 0, qu 0, qu 0, qu 0, qu 0, .slice none 0 0]) (l := (qM x y u (.slice none 0 0))) us29 sz56 rfl rfl zc56 (by kernel_rfl) ⟨rfl, (T rfl rfl), trivial⟩ rfl ?_)
               intro b252 w253 n254
               have N255 : w.heap.size ≤ b252 := n254.eq ▸ E197.size
               have : b1 < b252 := n254.eq ▸ lt_of_blk H199
               have := n254.eq; have := n254.size
               have := Below.fresh n254.ext
               have E256 := below_ext E197 E197.size n254.ext
               have h257 := (h198.ext n254.ext)
               refine lw_e (oe_callf (vs := [.slice (some ⟨gt25, 0, none⟩) l ct22, qi (k : Int), .slice (some ⟨b252, 0, none⟩) 1 1]) co27 (ar3 (T rfl rfl) (T rfl rfl) (T rfl rfl)) (insE_ok (x := x) (y := y) (u := u) (i := k) h257 n254.blk (by omega) (by omega) (by omega)) ?_)
               rintro _ w264 ⟨g258, c259, Q260, S261, rfl, e265, hQ262, hN263⟩
               have E266 := below_bl E256 E18.size e265
               refine lw_v (.slice (some ⟨g258, 0, none⟩) (l + 1) c259) (dv_assign (T rfl rfl)) <| lw_nil <| rk_seq <| rk_seq <| rk_reg <| lw_v (.slice (some ⟨g258, 0, none⟩) (l + 1) c259) (dv_move (T rfl rfl)) <| lw_v (qi (k : Int)) (dv_move (T rfl f40)) <| lw_v (.pointer (some ⟨g258, 0 + k * 13, none⟩)) (dv_indexM (g := g258) (o := 0) (l := l + 1) (c := c259) (i := k) (j := (k : Int)) (m := 13) us29 sz56 (T rfl rfl) (T rfl rfl) (by omega) (by first | omega | (simp; done) | (simp; omega))) <| lw_v (.pointer (some ⟨g258, 0 + k * 13, none⟩)) (dv_assign (T rfl rfl)) <| lw_nil <| rk_seq ?_
               obtain ⟨As267, hAs269⟩ : ∃ q_ : Option Addr, q_ = (S261 k).1 := ⟨_, rfl⟩
               obtain ⟨cs268, hcs270⟩ : ∃ q_ : Nat, q_ = (S261 k).2 := ⟨_, rfl⟩
               have hes0_ : (Q260 k).es = [] := by rw [hQ262, insF_at]
               have hes_ : (Q260 k).es.length ≤ 40 := by rw [hes0_]; decide
               refine rk_reg <| lw_v (.pointer (some ⟨g258, 0 + k * 13, none⟩)) (dv_move (T rfl rfl)) <| lw_v (.pointer (some ⟨g258, 0 + k * 13, none⟩)) (dv_nilCheck (T rfl rfl)) <| lw_v (.pointer (some ⟨g258, 0 + (k * 13 + 12), none⟩)) (dv_fieldW (g := g258) (o := 0) (i := k * 13) fo56_1 (T rfl rfl)) <| lw_v (.slice As267 ((Q260 k).es.length) cs268) (dv_load agt41 (T rfl rfl) (NR.slA (i := k) hN263.nr (by first | omega | (simp; done) | (simp; omega)) hAs269 hcs270)) <| lw_v (qi n) (dv_move (T rfl f35)) <| lw_e (oe_callf (vs := [.slice As267 ((Q260 k).es.length) cs268, qi n]) co28 (ar2 (T rfl rfl) (T rfl rfl)) (containsI_ok (x := n) (c := cs268) (NR.rdA (i := k) hN263.nr (by first | omega | (simp; done) | (simp; omega)) hAs269) rfl (by omega)) ?_)
               rintro _ w271 ⟨rfl, e272⟩
               have := Below.fresh e272
               have E273 := below_ext E266 E266.size e272
               refine lw_v (qd (¬ (n ∈ (Q260 k).es))) (dv_notd (p := n ∈ (Q260 k).es) (T rfl rfl)) <| lw_nil ?_
               by_cases hb274 : n ∈ (Q260 k).es
               · refine rk_cf (T rfl (congrArg Value.bool (decide_eq_false (not_not_intro hb274)))) <| rk_skip <| rk_seq <| rk_reg <| lw_v (.slice (some ⟨g258, 0, none⟩) (l + 1) c259) (dv_move (T rfl rfl)) <| lw_v (.slice (some ⟨g258, 0, none⟩) (l + 1) c259) (dv_assign (T rfl rfl)) <| lw_v (.bool true) (dv_assign C) <| lw_nil <| rk_ret Tryz.func8 (v := .tuple #[.slice (some ⟨g258, 0, none⟩) (l + 1) c259, .bool true]) (res2 Tryz.results8 (rv_tmp rfl rfl) (rv_tmp rfl rfl)) ⟨_, rfl, ?_⟩
                 have h275 := (hN263.ext e272)
                 exact absurd (hes0_ ▸ (by assumption : n ∈ (Q260 k).es)) (List.not_mem_nil)
               · refine rk_ct (T rfl (qT hb274)) <| rk_seq <| rk_reg <| lw_v (.pointer (some ⟨g258, 0 + k * 13, none⟩)) (dv_move (T rfl rfl)) <| lw_v (.pointer (some ⟨g258, 0 + k * 13, none⟩)) (dv_move (T rfl rfl)) <| lw_v (.pointer (some ⟨g258, 0 + k * 13, none⟩)) (dv_nilCheck (T rfl rfl)) <| lw_v (.pointer (some ⟨g258, 0 + (k * 13 + 12), none⟩)) (dv_fieldW (g := g258) (o := 0) (i := k * 13) fo56_1 (T rfl rfl)) ?_
                 have h276 := (hN263.ext e272)
                 refine lw_v (.slice As267 ((Q260 k).es.length) cs268) (dv_load agt41 (T rfl rfl) (NR.slA (i := k) h276.nr (by first | omega | (simp; done) | (simp; omega)) hAs269 hcs270)) <| lw_v (qi n) (dv_move (T rfl f35)) <| lw_e (oe_buildSlice (pv := [(0, qi n)]) (init := [qi 0]) (l := [qi n]) us41 sz2 rfl rfl zc2 (by kernel_rfl) ⟨rfl, (T rfl rfl), trivial⟩ rfl ?_)
                 intro b277 w278 n279
                 have N280 : w.heap.size ≤ b277 := n279.eq ▸ E273.size
                 have H281 := (e272.blk (bl_blk e265 (n254.ext.blk H199) (by omega)))
                 have : b1 < b277 := n279.eq ▸ lt_of_blk H281
                 have := n279.eq; have := n279.size
                 have := Below.fresh n279.ext
                 have E282 := below_ext E273 E273.size n279.ext
                 have h283 := (h276.ext n279.ext)
                 refine lw_e (oe_appendI (lo := w16.heap.size) (hi := w264.heap.size) (i := k) (z := n) us41 in2 (T rfl rfl) (T rfl rfl) h283 (by decide) (by omega) hAs269 rfl hcs270 n279.blk (by omega) (by omega) ?_)
                 intro Ad284 c285 w286 hH287 hO288 x289
                 have E290 := below_bl E282 E18.size x289
                 refine lw_v (.pointer (some ⟨g258, 0 + k * 13, none⟩)) (dv_nilCheck (T rfl rfl)) <| lw_v (.pointer (some ⟨g258, 0 + (k * 13 + 12), none⟩)) (dv_fieldW (g := g258) (o := 0) (i := k * 13) fo56_1 (T rfl rfl)) <| lw_e (oe_storeI (lo := w16.heap.size) (hi := w286.heap.size) (g := g258) (i := k) (L := ((Q260 k).es ++ [n])) sz41 (T rfl rfl) (T rfl rfl) hH287 hO288 (by rw [List.length_append]; rfl) (by decide) (by omega) ?_)
                 intro w291 hN292 x293 hs294
                 have E295 := below_bl E290 E18.size x293
                 refine lw_nil <| rk_reg <| lw_v (.pointer (some ⟨g258, 0 + k * 13, none⟩)) (dv_move (T rfl rfl)) <| lw_v (.pointer (some ⟨g258, 0 + k * 13, none⟩)) (dv_nilCheck (T rfl rfl)) <| lw_v (.pointer (some ⟨g258, 0 + (k * 13 + 12), none⟩)) (dv_fieldW (g := g258) (o := 0) (i := k * 13) fo56_1 (T rfl rfl)) <| lw_v (.slice Ad284 (((updA (fun i_ => (Q260 i_).es) k (((Q260 k).es ++ [n]))) k).length) c285) (dv_load agt41 (T rfl rfl) (NR.slA (i := k) hN292.nr (by first | omega | (simp; done) | (simp; omega)) (by rw [updA_same]) (by rw [updA_same]))) <| lw_e (oe_callf (vs := [.slice Ad284 (((updA (fun i_ => (Q260 i_).es) k (((Q260 k).es ++ [n]))) k).length) c285]) co29 (ar1 (T rfl rfl)) (sortI_ok (i := k) hN292 (by omega) (by rw [updA_same]) (by rw [updA_same]) rfl (by have := hes_; rw [updA_same, List.length_append, List.length_singleton]; omega) (by have := hes_; rw [updA_same, List.length_append, List.length_singleton]; omega)) ?_)
                 rintro _ w297 ⟨rfl, e298, hN296⟩
                 have E299 := below_bl E295 E18.size e298
                 refine qN <| lw_v (.slice (some ⟨g258, 0, none⟩) (l + 1) c259) (dv_move (T rfl rfl)) <| lw_v (.slice (some ⟨g258, 0, none⟩) (l + 1) c259) (dv_assign (T rfl rfl)) <| lw_v (.bool true) (dv_assign C) <| lw_nil <| rk_ret Tryz.func8 (v := .tuple #[.slice (some ⟨g258, 0, none⟩) (l + 1) c259, .bool true]) (res2 Tryz.results8 (rv_tmp rfl rfl) (rv_tmp rfl rfl)) ⟨_, rfl, ?_⟩
                 obtain ⟨e1_, e2_⟩ := putE_n (n := n) hnf hpi
                 rw [← hQ262] at e1_ e2_
                 refine ⟨some ⟨g258, 0, none⟩, c259, ((updA S261 k (Ad284, c285))), ?_⟩
                 rw [putN_n hS hnf, show decide (putS l Q x y u n) = true from decide_eq_true hS]
                 exact ⟨rfl, E299, (hN296.no.lo_le (by omega)).congr (fun i_ _ j_ _ => congrFun (e1_ i_) j_) (fun i_ _ => (e2_ i_).trans (by rw [sortE (E0 := fun i_ => (Q260 i_).es) (k := k) (n := n) (by show riseP (Q260 k).es; rw [hes0_]; exact riseP_nil) (by assumption) i_, hes0_]; rfl))⟩
           · refine rk_cf (T rfl (qF hb250)) <| rk_skip <| rk_seq <| rk_seq <| rk_reg <| lw_v (.slice (some ⟨gt25, 0, none⟩) l ct22) (dv_move (T rfl f39)) <| lw_v (qi (k : Int)) (dv_move (T rfl f40)) <| lw_v (.pointer (some ⟨gt25, 0 + k * 13, none⟩)) (dv_indexM (g := gt25) (o := 0) (l := l) (c := ct22) (i := k) (j := (k : Int)) (m := 13) us29 sz56 (T rfl rfl) (T rfl rfl) (by omega) (by first | omega | (simp; done) | (simp; omega))) <| lw_v (.pointer (some ⟨gt25, 0 + k * 13, none⟩)) (dv_assign (T rfl rfl)) <| lw_nil <| rk_seq ?_
             obtain ⟨As300, hAs302⟩ : ∃ q_ : Option Addr, q_ = (St23 k).1 := ⟨_, rfl⟩
             obtain ⟨cs301, hcs303⟩ : ∃ q_ : Nat, q_ = (St23 k).2 := ⟨_, rfl⟩
             have hfd : fdQ l Q x y u := by
              unfold fdQ; rw [hpi]; exact ⟨by omega, (wl12_eq (evF.x hxf (i := k) (by omega)) (evF.y hxf (i := k) (by omega)) (evF.u hxf (i := k) (by omega)) fx_ fy_ fu_).1 (by first | assumption | exact Decidable.not_not.1 (by assumption))⟩
             have hS : putS l Q x y u n := ⟨⟨by assumption, by assumption, by assumption⟩, .inl hfd⟩
             have hrs_ := (hev_.2 k (by omega)).2.2.1; have hes_ := rise_len hrs_
             refine rk_reg <| lw_v (.pointer (some ⟨gt25, 0 + k * 13, none⟩)) (dv_move (T rfl rfl)) <| lw_v (.pointer (some ⟨gt25, 0 + k * 13, none⟩)) (dv_nilCheck (T rfl rfl)) <| lw_v (.pointer (some ⟨gt25, 0 + (k * 13 + 12), none⟩)) (dv_fieldW (g := gt25) (o := 0) (i := k * 13) fo56_1 (T rfl rfl)) <| lw_v (.slice As300 ((Q k).es.length) cs301) (dv_load agt41 (T rfl rfl) (NR.slA (i := k) h198.nr (by first | omega | (simp; done) | (simp; omega)) hAs302 hcs303)) <| lw_v (qi n) (dv_move (T rfl f35)) <| lw_e (oe_callf (vs := [.slice As300 ((Q k).es.length) cs301, qi n]) co28 (ar2 (T rfl rfl) (T rfl rfl)) (containsI_ok (x := n) (c := cs301) (NR.rdA (i := k) h198.nr (by first | omega | (simp; done) | (simp; omega)) hAs302) rfl (by omega)) ?_)
             rintro _ w304 ⟨rfl, e305⟩
             have := Below.fresh e305
             have E306 := below_ext E197 E197.size e305
             refine lw_v (qd (¬ (n ∈ (Q k).es))) (dv_notd (p := n ∈ (Q k).es) (T rfl rfl)) <| lw_nil ?_
             by_cases hb307 : n ∈ (Q k).es
             · refine rk_cf (T rfl (congrArg Value.bool (decide_eq_false (not_not_intro hb307)))) <| rk_skip <| rk_seq <| rk_reg <| lw_v (.slice (some ⟨gt25, 0, none⟩) l ct22) (dv_move (T rfl f39)) <| lw_v (.slice (some ⟨gt25, 0, none⟩) l ct22) (dv_assign (T rfl rfl)) <| lw_v (.bool true) (dv_assign C) <| lw_nil <| rk_ret Tryz.func8 (v := .tuple #[.slice (some ⟨gt25, 0, none⟩) l ct22, .bool true]) (res2 Tryz.results8 (rv_tmp rfl rfl) (rv_tmp rfl rfl)) ⟨_, rfl, ?_⟩
               have h308 := (h198.ext e305)
               obtain ⟨e1_, e2_⟩ := putE_d (n := n) hfd hpi
               refine ⟨some ⟨gt25, 0, none⟩, ct22, St23, ?_⟩
               rw [putN_d hS hfd, show decide (putS l Q x y u n) = true from decide_eq_true hS]
               exact ⟨rfl, E306, (h308.no.lo_le (by omega)).congr (fun i_ _ j_ _ => congrFun (e1_ i_) j_) (fun i_ _ => (e2_ i_).trans (by split <;> first | rfl | (rename_i h_; rw [h_, with_mem hrs_ (by assumption)])))⟩
             · refine rk_ct (T rfl (qT hb307)) <| rk_seq <| rk_reg <| lw_v (.pointer (some ⟨gt25, 0 + k * 13, none⟩)) (dv_move (T rfl rfl)) <| lw_v (.pointer (some ⟨gt25, 0 + k * 13, none⟩)) (dv_move (T rfl rfl)) <| lw_v (.pointer (some ⟨gt25, 0 + k * 13, none⟩)) (dv_nilCheck (T rfl rfl)) <| lw_v (.pointer (some ⟨gt25, 0 + (k * 13 + 12), none⟩)) (dv_fieldW (g := gt25) (o := 0) (i := k * 13) fo56_1 (T rfl rfl)) ?_
               have h309 := (h198.ext e305)
               refine lw_v (.slice As300 ((Q k).es.length) cs301) (dv_load agt41 (T rfl rfl) (NR.slA (i := k) h309.nr (by first | omega | (simp; done) | (simp; omega)) hAs302 hcs303)) <| lw_v (qi n) (dv_move (T rfl f35)) <| lw_e (oe_buildSlice (pv := [(0, qi n)]) (init := [qi 0]) (l := [qi n]) us41 sz2 rfl rfl zc2 (by kernel_rfl) ⟨rfl, (T rfl rfl), trivial⟩ rfl ?_)
               intro b310 w311 n312
               have N313 : w.heap.size ≤ b310 := n312.eq ▸ E306.size
               have H314 := (e305.blk H199)
               have : b1 < b310 := n312.eq ▸ lt_of_blk H314
               have := n312.eq; have := n312.size
               have := Below.fresh n312.ext
               have E315 := below_ext E306 E306.size n312.ext
               have h316 := (h309.ext n312.ext)
               refine lw_e (oe_appendI (lo := w16.heap.size) (hi := w26.heap.size) (i := k) (z := n) us41 in2 (T rfl rfl) (T rfl rfl) h316 (by decide) (by omega) hAs302 rfl hcs303 n312.blk (by omega) (by omega) ?_)
               intro Ad317 c318 w319 hH320 hO321 x322
               have E323 := below_bl E315 E18.size x322
               refine lw_v (.pointer (some ⟨gt25, 0 + k * 13, none⟩)) (dv_nilCheck (T rfl rfl)) <| lw_v (.pointer (some ⟨gt25, 0 + (k * 13 + 12), none⟩)) (dv_fieldW (g := gt25) (o := 0) (i := k * 13) fo56_1 (T rfl rfl)) <| lw_e (oe_storeI (lo := w16.heap.size) (hi := w319.heap.size) (g := gt25) (i := k) (L := ((Q k).es ++ [n])) sz41 (T rfl rfl) (T rfl rfl) hH320 hO321 (by rw [List.length_append]; rfl) (by decide) (by omega) ?_)
               intro w324 hN325 x326 hs327
               have E328 := below_bl E323 E18.size x326
               refine lw_nil <| rk_reg <| lw_v (.pointer (some ⟨gt25, 0 + k * 13, none⟩)) (dv_move (T rfl rfl)) <| lw_v (.pointer (some ⟨gt25, 0 + k * 13, none⟩)) (dv_nilCheck (T rfl rfl)) <| lw_v (.pointer (some ⟨gt25, 0 + (k * 13 + 12), none⟩)) (dv_fieldW (g := gt25) (o := 0) (i := k * 13) fo56_1 (T rfl rfl)) <| lw_v (.slice Ad317 (((updA (fun i_ => (Q i_).es) k (((Q k).es ++ [n]))) k).length) c318) (dv_load agt41 (T rfl rfl) (NR.slA (i := k) hN325.nr (by first | omega | (simp; done) | (simp; omega)) (by rw [updA_same]) (by rw [updA_same]))) <| lw_e (oe_callf (vs := [.slice Ad317 (((updA (fun i_ => (Q i_).es) k (((Q k).es ++ [n]))) k).length) c318]) co29 (ar1 (T rfl rfl)) (sortI_ok (i := k) hN325 (by omega) (by rw [updA_same]) (by rw [updA_same]) rfl (by have := hes_; rw [updA_same, List.length_append, List.length_singleton]; omega) (by have := hes_; rw [updA_same, List.length_append, List.length_singleton]; omega)) ?_)
               rintro _ w330 ⟨rfl, e331, hN329⟩
               have E332 := below_bl E328 E18.size e331
               refine qN <| lw_v (.slice (some ⟨gt25, 0, none⟩) l ct22) (dv_move (T rfl f39)) <| lw_v (.slice (some ⟨gt25, 0, none⟩) l ct22) (dv_assign (T rfl rfl)) <| lw_v (.bool true) (dv_assign C) <| lw_nil <| rk_ret Tryz.func8 (v := .tuple #[.slice (some ⟨gt25, 0, none⟩) l ct22, .bool true]) (res2 Tryz.results8 (rv_tmp rfl rfl) (rv_tmp rfl rfl)) ⟨_, rfl, ?_⟩
               obtain ⟨e1_, e2_⟩ := putE_d (n := n) hfd hpi
               refine ⟨some ⟨gt25, 0, none⟩, ct22, ((updA St23 k (Ad317, c318))), ?_⟩
               rw [putN_d hS hfd, show decide (putS l Q x y u n) = true from decide_eq_true hS]
               exact ⟨rfl, E332, (hN329.no.lo_le (by omega)).congr (fun i_ _ j_ _ => congrFun (e1_ i_) j_) (fun i_ _ => (e2_ i_).trans ((sortE (E0 := fun i_ => (Q i_).es) (k := k) (n := n) hrs_ (by assumption) i_).symm))⟩
     · refine rk_ct (T rfl (qT hb19)) <| rk_seq <| rk_reg <| lw_v (.slice none 0 0) (dv_assign C) <| lw_v (.bool false) (dv_assign C) <| lw_nil <| rk_ret Tryz.func8 (v := .tuple #[.slice none 0 0, .bool false]) (res2 Tryz.results8 (rv_tmp rfl rfl) (rv_tmp rfl rfl)) ⟨_, rfl, ?_⟩
       have hS : ¬ putS l Q x y u n := fun h_ => by first | exact absurd h_.1.1 (by assumption) | exact absurd h_.1.2.1 (by assumption) | exact absurd h_.1.2.2 (by assumption) | exact h_.2.elim hnf (fun h_ => by omega)
       refine ⟨none, 0, fun _ => (none, 0), ?_⟩
       rw [putN_f hS, show decide (putS l Q x y u n) = false from decide_eq_false hS]
       exact ⟨rfl, E18, NO.nil E18.size (Nat.le_refl _)⟩
   · refine lw_no (d := 19) rfl rfl (qT hb15) <| lw_no (d := 19) rfl rfl (qT hb15) <| lw_no (d := 19) rfl rfl (qT hb15) <| lw_v (.bool true) (dv_pick_t (T rfl (qT hb15)) C) <| lw_nil <| rk_ct (T rfl rfl) <| rk_seq <| rk_reg <| lw_v (.slice none 0 0) (dv_assign C) <| lw_v (.bool false) (dv_assign C) <| lw_nil ?_
     refine rk_ret Tryz.func8 (v := .tuple #[.slice none 0 0, .bool false]) (res2 Tryz.results8 (rv_tmp rfl rfl) (rv_tmp rfl rfl)) ⟨_, rfl, ?_⟩
     have hS : ¬ putS l Q x y u n := fun h_ => by first | exact absurd h_.1.1 (by assumption) | exact absurd h_.1.2.1 (by assumption) | exact absurd h_.1.2.2 (by assumption) | exact h_.2.elim hnf (fun h_ => by omega)
     refine ⟨none, 0, fun _ => (none, 0), ?_⟩
     rw [putN_f hS, show decide (putS l Q x y u n) = false from decide_eq_false hS]
     exact ⟨rfl, E14, NO.nil E14.size (Nat.le_refl _)⟩
 · refine lw_no (d := 14) rfl rfl (qT hb10) <| lw_no (d := 14) rfl rfl (qT hb10) <| lw_no (d := 14) rfl rfl (qT hb10) <| lw_v (.bool true) (dv_pick_t (T rfl (qT hb10)) C) <| lw_v (.bool true) (dv_move (T rfl rfl)) <| lw_no (d := 19) rfl rfl (rfl) <| lw_no (d := 19) rfl rfl (rfl) <| lw_no (d := 19) rfl rfl (rfl) <| lw_v (.bool true) (dv_pick_t (T rfl rfl) C) <| lw_nil <| rk_ct (T rfl rfl) ?_
   refine rk_seq <| rk_reg <| lw_v (.slice none 0 0) (dv_assign C) <| lw_v (.bool false) (dv_assign C) <| lw_nil <| rk_ret Tryz.func8 (v := .tuple #[.slice none 0 0, .bool false]) (res2 Tryz.results8 (rv_tmp rfl rfl) (rv_tmp rfl rfl)) ⟨_, rfl, ?_⟩
   have hS : ¬ putS l Q x y u n := fun h_ => by first | exact absurd h_.1.1 (by assumption) | exact absurd h_.1.2.1 (by assumption) | exact absurd h_.1.2.2 (by assumption) | exact h_.2.elim hnf (fun h_ => by omega)
   refine ⟨none, 0, fun _ => (none, 0), ?_⟩
   rw [putN_f hS, show decide (putS l Q x y u n) = false from decide_eq_false hS]
   exact ⟨rfl, E9, NO.nil E9.size (Nat.le_refl _)⟩
end Go.Proofs.YtmbpomcbdopgnaaGreat.W
