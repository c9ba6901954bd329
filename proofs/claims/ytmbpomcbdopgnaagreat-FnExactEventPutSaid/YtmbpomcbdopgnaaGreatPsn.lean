/- Walks and plain mathematics, packed by a program of this session: declarations that the rows reach. -/
import Derived.Test.YtmbpomcbdopgnaaGreatPsm
set_option linter.unusedVariables false
set_option linter.unusedSimpArgs false
namespace Go.Proofs.YtmbpomcbdopgnaaGreat.W
open Go Go.RowKit Go.Proofs.YtmbpomcbdopgnaaGreat.Fw
attribute [local irreducible] RunK LW AW DV OE Ct
theorem co10 : callOk Tryz.prog 10 = true := by kernel_rfl
theorem co11 : callOk Tryz.prog 11 = true := by kernel_rfl
theorem co4 : callOk Tryz.prog 4 = true := by kernel_rfl
theorem co5 : callOk Tryz.prog 5 = true := by kernel_rfl
theorem co6 : callOk Tryz.prog 6 = true := by kernel_rfl
theorem co8 : callOk Tryz.prog 8 = true := by kernel_rfl
theorem co9 : callOk Tryz.prog 9 = true := by kernel_rfl
set_option maxRecDepth 100000 in
set_option maxHeartbeats 8000000 in
theorem lawEventPut_ok {w : World} {x y u n : Int} {A : Option Addr} {l c : Nat} {Q : Nat → Ev} {SL : SlF} (hx : NR w 0 w.heap.size A l (fun i_ => evW (Q i_)) (fun i_ => (Q i_).es) SL) (hlc : l ≤ c) (hcm : c ≤ 9223372036854775807) (hEm : ∀ i, i < l → (Q i).es.length ≤ 9223372036854775807) (hfq : ∀ i, i < l → fits (Q i).x ∧ fits (Q i).y ∧ fits (Q i).u) (fx_ : fits x) (fy_ : fits y) (fu_ : fits u) : Ct Tryz.prog 3 [.slice A l c, .agg #[.int .u64 (wv3 x), .int .u64 (wv2 x), .int .u64 (wv1 x), .int .u64 (wv0 x), .int .u64 (wv3 y), .int .u64 (wv2 y), .int .u64 (wv1 y), .int .u64 (wv0 y), .int .u64 (wv3 u), .int .u64 (wv2 u), .int .u64 (wv1 u), .int .u64 (wv0 u)], .int .i64 n] w fun v w1 => v = .bool true ∧ Ext w w1 := by
 refine ct_run (n := 109) Tryz.func3 rfl Tryz.ntmps3 rfl ?_
 have E0 : Below w.heap.size w w := Below.refl _ _
 refine rk_seq <| rk_reg <| lw_e (oe_box (v := .agg (qA x y u)) (cs := (qA x y u)) (T rfl rfl) rfl ?_)
 intro b1 w2 n3
 have N4 : w.heap.size ≤ b1 := n3.eq ▸ E0.size
 have := n3.eq; have := n3.size
 have := Below.fresh n3.ext
 have E5 := below_ext E0 E0.size n3.ext
 refine lw_v (.bool false) (dv_assign C) <| qN <| lw_v (qi 1048576) (dv_assign C) <| qN <| lw_v (.slice A l c) (dv_move (T rfl rfl)) <| lw_v (qi 1048576) (dv_move (T rfl rfl)) ?_
 have h6 := (hx.ext n3.ext)
 refine lw_e (oe_callf (vs := [.slice A l c, qi 1048576]) co4 (ar2 (T rfl rfl) (T rfl rfl)) (szEventS_ok (c := c) h6 (by omega) hEm (by omega)) ?_)
 rintro _ w9 ⟨zs7, rfl, hzs8, e10⟩
 have := Below.fresh e10
 have E11 := below_ext E5 E5.size e10
 have hsz_ := hzs8
 refine lw_v (qi zs7) (dv_assign (T rfl rfl)) <| lw_nil <| rk_seq <| rk_seq <| rk_reg <| lw_v (qi zs7) (dv_move (T rfl rfl)) <| lw_v (qd (zs7 < 0)) (dv_lss (a := zs7) (b := 0) (T rfl rfl) C) <| lw_nil ?_
 by_cases hb12 : zs7 < 0
 · refine rk_ct (T rfl (qT hb12)) <| rk_seq <| rk_reg <| lw_v (.bool true) (dv_assign C) <| lw_nil <| rk_ret Tryz.func3 (v := .bool true) (res1 Tryz.results3 (rv_tmp rfl rfl)) ⟨_, rfl, ?_⟩
   exact ⟨rfl, E11⟩
 · have hxb := (hsz_ (by omega)).1
   have hxf : evF l Q := fun i_ hi_ => ⟨hfq i_ hi_, (hsz_ (by omega)).2 i_ hi_⟩
   have hxf2 := putQ_F (n := n) hxf ⟨fx_, fy_, fu_⟩
   have htl := putN_le (l := l) (Q := Q) (x := x) (y := y) (u := u) (n := n)
   refine rk_cf (T rfl (qF hb12)) <| rk_skip <| rk_seq <| rk_any (fun w => w.heap[b1]? = some (.cells (qA x y u) 27)) [10] mo ?_
   intro w13 d14
   have := Below.fresh d14.ext
   have E15 := below_ext E11 E11.size d14.ext
   have H16 := (d14.ext.blk (e10.blk n3.blk))
   refine aw_pure 0 (.slice A l c) rfl (by kernel_rfl) .none H16 (fun _ => dv_move (T rfl rfl)) <| aw_load 2 (.agg (qA x y u)) rfl (by kernel_rfl) .none H16 (fun _ s => dv_loads (l := (qL x y u)) agt27 sz27 (T rfl rfl) s rfl) <| aw_pure 4 (qi n) rfl (by kernel_rfl) .none H16 (fun _ => dv_move (T rfl rfl)) ?_
   have h17 := ((h6.ext e10).ext d14.ext)
   refine aw_one 1 rfl (by kernel_rfl) .none (oe_callf (vs := [.slice A l c]) co6 (ar1 (T rfl rfl)) (toEventS_ok (c := c) h17 (by omega) hxf) ?_)
   rintro _ w21 ⟨At18, St19, rfl, e22, hNt20⟩
   have := Below.fresh e22
   have E23 := below_ext E15 E15.size e22
   have := hNt20.lh
   have H24 := (e22.blk H16)
   refine ⟨.inr H24, ?_⟩
   refine aw_one 3 rfl (by kernel_rfl) .none (oe_callf (vs := [.agg (qA x y u)]) co7 (ar1 (T rfl rfl)) (toPoint_ok (x := x) (y := y) (u := u)  ) ?_)
   rintro _ w25 ⟨rfl, e26⟩
   have := Below.fresh e26
   have E27 := below_ext E23 E23.size e26
   have H28 := (e26.blk H24)
   refine ⟨.inr H28, ?_⟩
   have h29 := (hNt20.ext e26)
   refine aw_one 5 rfl (by kernel_rfl) .none (oe_callf (vs := [.slice At18 l l, .agg (qA x y u), qi n]) co5 (ar3 (T rfl rfl) (T rfl rfl) (T rfl rfl)) (sEventPut_ok (n := n) (c := l) h29.nr (by omega) hxf fx_ fy_ fu_) ?_)
   rintro _ w34 ⟨At30, ct31, St32, rfl, e35, hNt33⟩
   have := Below.fresh e35
   have E36 := below_ext E27 E27.size e35
   have := hNt33.lh
   have H37 := (e35.blk H28)
   refine ⟨.inr H37, ?_⟩
   refine aw_pure 6 (.tuple #[.slice At30 (putN l Q x y u n) ct31, qd (putS l Q x y u n)]) rfl (by kernel_rfl) .none H37 (fun _ => dv_move (T rfl rfl)) <| aw_pure 7 (.slice At30 (putN l Q x y u n) ct31) rfl (by kernel_rfl) .none H37 (fun _ => dv_extract (vs := #[.slice At30 (putN l Q x y u n) ct31, qd (putS l Q x y u n)]) (T rfl rfl) rfl) <| aw_pure 8 (qd (putS l Q x y u n)) rfl (by kernel_rfl) .none H37 (fun _ => dv_extract (vs := #[.slice At30 (putN l Q x y u n) ct31, qd (putS l Q x y u n)]) (T rfl rfl) rfl) <| aw_pure 9 (.slice At30 (putN l Q x y u n) ct31) rfl (by kernel_rfl) .none H37 (fun _ => dv_assign (T rfl rfl)) <| aw_last 10 (qd (putS l Q x y u n)) rfl (by kernel_rfl) .none (fun _ => dv_assign (T rfl rfl)) <| aw_done (by kernel_rfl) <| rk_seq <| rk_reg <| lw_v (.slice A l c) (dv_move (T rfl rfl)) ?_
   have h38 := (((h17.ext e22).ext e26).ext e35)
   refine lw_e (oe_callf (vs := [.slice A l c]) co6 (ar1 (T rfl rfl)) (toEventS_ok (c := c) h38 (by omega) hxf) ?_)
   rintro _ w42 ⟨At39, St40, rfl, e43, hNt41⟩
   have := Below.fresh e43
   have E44 := below_ext E36 E36.size e43
   have := hNt41.lh
   refine lw_v (.slice At39 l l) (dv_assign (T rfl rfl)) <| qN <| lw_v (.slice At39 l l) (dv_move (T rfl rfl)) ?_
   have H45 := (e43.blk H37)
   refine lw_v (.agg (qA x y u)) (dv_loads (l := (qL x y u)) agt27 sz27 (T rfl rfl) H45 rfl) <| lw_e (oe_callf (vs := [.agg (qA x y u)]) co7 (ar1 (T rfl rfl)) (toPoint_ok (x := x) (y := y) (u := u)  ) ?_)
   rintro _ w46 ⟨rfl, e47⟩
   have := Below.fresh e47
   have E48 := below_ext E44 E44.size e47
   refine lw_v (qi n) (dv_move (T rfl rfl)) ?_
   have h49 := (hNt41.ext e47)
   refine lw_e (oe_callf (vs := [.slice At39 l l, .agg (qA x y u), qi n]) co8 (ar3 (T rfl rfl) (T rfl rfl) (T rfl rfl)) (iEventPut_ok (n := n) (c := l) h49.nr (by omega) hxf fx_ fy_ fu_) ?_)
   rintro _ w54 ⟨At50, ct51, St52, rfl, e55, hNt53⟩
   have := Below.fresh e55
   have E56 := below_ext E48 E48.size e55
   have := hNt53.lh
   refine lw_v (.tuple #[.slice At50 (putN l Q x y u n) ct51, qd (putS l Q x y u n)]) (dv_move (T rfl rfl)) <| lw_v (.slice At50 (putN l Q x y u n) ct51) (dv_extract (vs := #[.slice At50 (putN l Q x y u n) ct51, qd (putS l Q x y u n)]) (T rfl rfl) rfl) <| lw_v (qd (putS l Q x y u n)) (dv_extract (vs := #[.slice At50 (putN l Q x y u n) ct51, qd (putS l Q x y u n)]) (T rfl rfl) rfl) <| lw_v (.slice At50 (putN l Q x y u n) ct51) (dv_assign (T rfl rfl)) <| lw_v (qd (putS l Q x y u n)) (dv_assign (T rfl rfl)) <| lw_nil <| rk_seq <| rk_seq <| rk_reg <| lw_v (.slice At50 (putN l Q x y u n) ct51) (dv_move (T rfl rfl)) <| lw_v (.slice At30 (putN l Q x y u n) ct31) (dv_move (T rfl rfl)) ?_
   have h57 := (((hNt33.ext e43).ext e47).ext e55)
   refine lw_e (oe_callf (vs := [.slice At50 (putN l Q x y u n) ct51, .slice At30 (putN l Q x y u n) ct31]) co9 (ar2 (T rfl rfl) (T rfl rfl)) (eqEventS_ok (c := ct51) (d := ct31) hNt53.nr (by omega) hxf2 h57.nr) ?_)
   rintro _ w58 ⟨rfl, e59⟩
   have := Below.fresh e59
   have E60 := below_ext E56 E56.size e59
   refine lw_v (.bool false) (dv_not (b := true) (T rfl rfl)) <| lw_v (.bool false) (dv_move (T rfl rfl)) <| lw_vy (qd (putS l Q x y u n)) (d := 46) rfl rfl (rfl) (dv_move (T rfl rfl)) <| lw_vy (qd (putS l Q x y u n)) (d := 46) rfl rfl (rfl) (dv_move (T rfl rfl)) <| lw_vy (.bool ((decide (putS l Q x y u n)) != (decide (putS l Q x y u n)))) (d := 46) rfl rfl (rfl) (dv_neqb (a := decide (putS l Q x y u n)) (b := decide (putS l Q x y u n)) ub4 (T rfl rfl) (T rfl rfl)) <| lw_v (.bool ((decide (putS l Q x y u n)) != (decide (putS l Q x y u n)))) (dv_pick_f (T rfl rfl) (T rfl rfl)) <| lw_nil ?_
   rcases Bool.eq_false_or_eq_true ((decide (putS l Q x y u n)) != (decide (putS l Q x y u n))) with hb61 | hb61
   · refine rk_ct (T rfl (congrArg Value.bool hb61)) <| rk_seq <| rk_reg <| lw_v (.bool false) (dv_assign C) <| lw_nil <| rk_ret Tryz.func3 (v := .bool false) (res1 Tryz.results3 (rv_tmp rfl rfl)) ⟨_, rfl, ?_⟩
     exact ⟨(by exfalso; first | contradiction | exact absurd rfl (by assumption) | omega | (simp at hb61; done)), E60⟩
   · refine rk_cf (T rfl (congrArg Value.bool hb61)) <| rk_skip <| rk_seq <| rk_seq <| rk_reg <| lw_v (.slice At39 l l) (dv_move (T rfl rfl)) <| lw_v (.slice A l c) (dv_move (T rfl rfl)) ?_
     have h62 := ((((h38.ext e43).ext e47).ext e55).ext e59)
     refine lw_e (oe_callf (vs := [.slice A l c]) co6 (ar1 (T rfl rfl)) (toEventS_ok (c := c) h62 (by omega) hxf) ?_)
     rintro _ w66 ⟨At63, St64, rfl, e67, hNt65⟩
     have := Below.fresh e67
     have E68 := below_ext E60 E60.size e67
     have := hNt65.lh
     have h69 := (((h49.ext e55).ext e59).ext e67)
     refine lw_e (oe_callf (vs := [.slice At39 l l, .slice At63 l l]) co9 (ar2 (T rfl rfl) (T rfl rfl)) (eqEventS_ok (c := l) (d := l) h69.nr (by omega) hxf hNt65.nr) ?_)
     rintro _ w70 ⟨rfl, e71⟩
     have := Below.fresh e71
     have E72 := below_ext E68 E68.size e71
     refine lw_v (.bool false) (dv_not (b := true) (T rfl rfl)) <| lw_nil <| rk_cf (T rfl rfl) <| rk_skip <| rk_seq <| rk_reg <| lw_v (qi 1) (dv_assign C) <| qN <| lw_v (.slice At39 l l) (dv_move (T rfl rfl)) ?_
     refine lw_v (qi 1) (dv_move (T rfl rfl)) ?_
     have h73 := (h69.ext e71)
     have := kAt_ge 1 ((fun i_ => (Q i_).es)) l; have := kAt_le 1 (fun i_ h_ => evF.n hxf h_) l (Nat.le_refl _)
     refine lw_e (oe_callf (vs := [.slice At39 l l, qi 1]) co10 (ar2 (T rfl rfl) (T rfl rfl)) (markEventS_ok h73 (fun i_ h_ => evF.n hxf h_) (by omega) (by omega)) ?_)
     rintro _ w79 ⟨Wm74, Em75, rfl, e80, hN76, hlm77, hmd78⟩
     have E81 := below_mid E72 (by omega) E72.size e80
     have := e80.size
     refine lw_v (qi (kAt 1 ((fun i_ => (Q i_).es)) l)) (dv_assign (T rfl rfl)) <| lw_nil <| rk_seq <| rk_seq <| rk_reg <| lw_v (qi (kAt 1 ((fun i_ => (Q i_).es)) l)) (dv_move (T rfl rfl)) <| lw_v (qd ((kAt 1 ((fun i_ => (Q i_).es)) l) < 0)) (dv_lss (a := kAt 1 ((fun i_ => (Q i_).es)) l) (b := 0) (T rfl rfl) C) <| lw_v (qd ((kAt 1 ((fun i_ => (Q i_).es)) l) < 0)) (dv_move (T rfl rfl)) ?_
     by_cases hb82 : (kAt 1 ((fun i_ => (Q i_).es)) l) < 0
     · refine lw_no (d := 61) rfl rfl (qT hb82) <| lw_no (d := 61) rfl rfl (qT hb82) <| lw_no (d := 61) rfl rfl (qT hb82) <| lw_no (d := 61) rfl rfl (qT hb82) <| lw_v (.bool true) (dv_pick_t (T rfl (qT hb82)) C) <| lw_v (.bool true) (dv_move (T rfl rfl)) <| lw_no (d := 67) rfl rfl (rfl) <| lw_no (d := 67) rfl rfl (rfl) <| lw_no (d := 67) rfl rfl (rfl) <| lw_v (.bool true) (dv_pick_t (T rfl rfl) C) <| lw_nil ?_
       refine rk_ct (T rfl rfl) <| rk_seq <| rk_reg <| lw_v (.bool false) (dv_assign C) <| lw_nil <| rk_ret Tryz.func3 (v := .bool false) (res1 Tryz.results3 (rv_tmp rfl rfl)) ⟨_, rfl, ?_⟩
       exact ⟨(by exfalso; first | contradiction | exact absurd rfl (by assumption) | omega | (simp at hb61; done)), E81⟩
     · refine lw_vy (.slice At50 (putN l Q x y u n) ct51) (d := 61) rfl rfl (qF hb82) (dv_move (T rfl rfl)) <| lw_vy (.slice At30 (putN l Q x y u n) ct31) (d := 61) rfl rfl (qF hb82) (dv_move (T rfl rfl)) ?_
       have h83 := ((((hNt53.ext e59).ext e67).ext e71).mid e80 (by omega))
       have h84 := ((((h57.ext e59).ext e67).ext e71).mid e80 (by omega))
       refine lw_ey (d := 61) rfl rfl (qF hb82) (oe_callf (vs := [.slice At50 (putN l Q x y u n) ct51, .slice At30 (putN l Q x y u n) ct31]) co9 (ar2 (T rfl rfl) (T rfl rfl)) (eqEventS_ok (c := ct51) (d := ct31) h83.nr (by omega) hxf2 h84.nr) ?_)
       rintro _ w85 ⟨rfl, e86⟩
       have := Below.fresh e86
       have E87 := below_ext E81 E81.size e86
       refine lw_vy (.bool false) (d := 61) rfl rfl (qF hb82) (dv_not (b := true) (T rfl rfl)) <| lw_v (.bool false) (dv_pick_f (T rfl (qF hb82)) (T rfl rfl)) <| lw_v (.bool false) (dv_move (T rfl rfl)) <| lw_vy (qd (putS l Q x y u n)) (d := 67) rfl rfl (rfl) (dv_move (T rfl rfl)) <| lw_vy (qd (putS l Q x y u n)) (d := 67) rfl rfl (rfl) (dv_move (T rfl rfl)) <| lw_vy (.bool ((decide (putS l Q x y u n)) != (decide (putS l Q x y u n)))) (d := 67) rfl rfl (rfl) (dv_neqb (a := decide (putS l Q x y u n)) (b := decide (putS l Q x y u n)) ub4 (T rfl rfl) (T rfl rfl)) <| lw_v (.bool ((decide (putS l Q x y u n)) != (decide (putS l Q x y u n)))) (dv_pick_f (T rfl rfl) (T rfl rfl)) <| lw_nil <| rk_cf (T rfl (congrArg Value.bool hb61)) <| rk_skip <| rk_seq ?_
       refine rk_reg <| lw_v (qi 1) (dv_assign C) <| qN <| lw_v (.slice At50 (putN l Q x y u n) ct51) (dv_move (T rfl rfl)) <| lw_v (qi 1) (dv_move (T rfl rfl)) ?_
       have h88 := (h83.ext e86)
       have := kAt_ge 1 ((fun i_ => ((putQ l Q x y u n) i_).es)) (putN l Q x y u n); have := kAt_le 1 (fun i_ h_ => evF.n hxf2 h_) (putN l Q x y u n) (Nat.le_refl _)
       refine lw_e (oe_callf (vs := [.slice At50 (putN l Q x y u n) ct51, qi 1]) co10 (ar2 (T rfl rfl) (T rfl rfl)) (markEventS_ok h88 (fun i_ h_ => evF.n hxf2 h_) (by omega) (by omega)) ?_)
       rintro _ w94 ⟨Wm89, Em90, rfl, e95, hN91, hlm92, hmd93⟩
       have E96 := below_mid E87 (by omega) E87.size e95
       have := e95.size
       refine lw_v (qi (kAt 1 ((fun i_ => ((putQ l Q x y u n) i_).es)) (putN l Q x y u n))) (dv_assign (T rfl rfl)) <| qN <| lw_v (qi 1) (dv_assign C) <| qN <| lw_v (.slice At50 (putN l Q x y u n) ct51) (dv_move (T rfl rfl)) <| lw_v (qi 1) (dv_move (T rfl rfl)) <| lw_e (oe_callf (vs := [.slice At50 (putN l Q x y u n) ct51, qi 1]) co11 (ar2 (T rfl rfl) (T rfl rfl)) (heldEventS_ok (cc := ct51) (E := (fun i_ => ((putQ l Q x y u n) i_).es)) hN91.nr hlm92 hmd93 (fun i_ h_ => evF.n hxf2 h_) (by omega) (by omega)) ?_)
       rintro _ w97 ⟨rfl, e98⟩
       have := Below.fresh e98
       have E99 := below_ext E96 E96.size e98
       refine lw_v (qi (kAt 1 ((fun i_ => ((putQ l Q x y u n) i_).es)) (putN l Q x y u n))) (dv_assign (T rfl rfl)) <| lw_nil <| rk_seq <| rk_seq <| rk_reg <| lw_v (qi (kAt 1 ((fun i_ => ((putQ l Q x y u n) i_).es)) (putN l Q x y u n))) (dv_move (T rfl rfl)) <| lw_v (qd ((kAt 1 ((fun i_ => ((putQ l Q x y u n) i_).es)) (putN l Q x y u n)) < 0)) (dv_lss (a := kAt 1 ((fun i_ => ((putQ l Q x y u n) i_).es)) (putN l Q x y u n)) (b := 0) (T rfl rfl) C) <| lw_nil ?_
       by_cases hb100 : (kAt 1 ((fun i_ => ((putQ l Q x y u n) i_).es)) (putN l Q x y u n)) < 0
       · refine rk_ct (T rfl (qT hb100)) <| rk_seq <| rk_reg <| lw_v (.bool false) (dv_assign C) <| lw_nil <| rk_ret Tryz.func3 (v := .bool false) (res1 Tryz.results3 (rv_tmp rfl rfl)) ⟨_, rfl, ?_⟩
         exact ⟨(by exfalso; first | contradiction | exact absurd rfl (by assumption) | omega | (simp at hb61; done)), E99⟩
       · refine rk_cf (T rfl (qF hb100)) <| rk_skip <| rk_seq <| rk_seq <| rk_reg <| lw_v (qi (kAt 1 ((fun i_ => ((putQ l Q x y u n) i_).es)) (putN l Q x y u n))) (dv_move (T rfl rfl)) <| lw_v (qi (kAt 1 ((fun i_ => ((putQ l Q x y u n) i_).es)) (putN l Q x y u n))) (dv_move (T rfl rfl)) <| lw_v (qd ((kAt 1 ((fun i_ => ((putQ l Q x y u n) i_).es)) (putN l Q x y u n)) ≠ (kAt 1 ((fun i_ => ((putQ l Q x y u n) i_).es)) (putN l Q x y u n)))) (dv_neq (a := kAt 1 ((fun i_ => ((putQ l Q x y u n) i_).es)) (putN l Q x y u n)) (b := kAt 1 ((fun i_ => ((putQ l Q x y u n) i_).es)) (putN l Q x y u n)) (T rfl rfl) (T rfl rfl)) <| lw_nil ?_
         by_cases hb101 : (kAt 1 ((fun i_ => ((putQ l Q x y u n) i_).es)) (putN l Q x y u n)) ≠ (kAt 1 ((fun i_ => ((putQ l Q x y u n) i_).es)) (putN l Q x y u n))
         · refine rk_ct (T rfl (qT hb101)) <| rk_seq <| rk_reg <| lw_v (.bool false) (dv_assign C) <| lw_nil <| rk_ret Tryz.func3 (v := .bool false) (res1 Tryz.results3 (rv_tmp rfl rfl)) ⟨_, rfl, ?_⟩
           exact ⟨(by exfalso; first | contradiction | exact absurd rfl (by assumption) | omega | (simp at hb61; done)), E99⟩
         · refine rk_cf (T rfl (qF hb101)) <| rk_skip <| rk_seq <| rk_any (fun w => w.heap[b1]? = some (.cells (qA x y u) 27)) [10] mo ?_
           intro w102 d103
           have := Below.fresh d103.ext
           have E104 := below_ext E99 E99.size d103.ext
           have H105 := (d103.ext.blk (e98.blk ((e95.block _ (lt_of_blk (e86.blk ((e80.block _ (lt_of_blk (e71.blk (e67.blk (e59.blk (e55.blk (e47.blk H45)))))) (by omega)).trans (e71.blk (e67.blk (e59.blk (e55.blk (e47.blk H45)))))))) (by omega)).trans (e86.blk ((e80.block _ (lt_of_blk (e71.blk (e67.blk (e59.blk (e55.blk (e47.blk H45)))))) (by omega)).trans (e71.blk (e67.blk (e59.blk (e55.blk (e47.blk H45))))))))))
           refine aw_pure 0 (.slice A l c) rfl (by kernel_rfl) .none H105 (fun _ => dv_move (T rfl rfl)) <| aw_load 2 (.agg (qA x y u)) rfl (by kernel_rfl) .none H105 (fun _ s => dv_loads (l := (qL x y u)) agt27 sz27 (T rfl rfl) s rfl) <| aw_pure 4 (qi n) rfl (by kernel_rfl) .none H105 (fun _ => dv_move (T rfl rfl)) ?_
           have h106 := (((((((h62.ext e67).ext e71).mid e80 (by omega)).ext e86).mid e95 (by omega)).ext e98).ext d103.ext)
           refine aw_one 1 rfl (by kernel_rfl) .none (oe_callf (vs := [.slice A l c]) co6 (ar1 (T rfl rfl)) (toEventS_ok (c := c) h106 (by omega) hxf) ?_)
           rintro _ w110 ⟨At107, St108, rfl, e111, hNt109⟩
           have := Below.fresh e111
           have E112 := below_ext E104 E104.size e111
           have := hNt109.lh
           have H113 := (e111.blk H105)
           refine ⟨.inr H113, ?_⟩
           refine aw_one 3 rfl (by kernel_rfl) .none (oe_callf (vs := [.agg (qA x y u)]) co7 (ar1 (T rfl rfl)) (toPoint_ok (x := x) (y := y) (u := u)  ) ?_)
           rintro _ w114 ⟨rfl, e115⟩
           have := Below.fresh e115
           have E116 := below_ext E112 E112.size e115
           have H117 := (e115.blk H113)
           refine ⟨.inr H117, ?_⟩
           have h118 := (hNt109.ext e115)
           refine aw_one 5 rfl (by kernel_rfl) .none (oe_callf (vs := [.slice At107 l l, .agg (qA x y u), qi n]) co8 (ar3 (T rfl rfl) (T rfl rfl) (T rfl rfl)) (iEventPut_ok (n := n) (c := l) h118.nr (by omega) hxf fx_ fy_ fu_) ?_)
           rintro _ w123 ⟨At119, ct120, St121, rfl, e124, hNt122⟩
           have := Below.fresh e124
           have E125 := below_ext E116 E116.size e124
           have := hNt122.lh
           have H126 := (e124.blk H117)
           refine ⟨.inr H126, ?_⟩
           refine aw_pure 6 (.tuple #[.slice At119 (putN l Q x y u n) ct120, qd (putS l Q x y u n)]) rfl (by kernel_rfl) .none H126 (fun _ => dv_move (T rfl rfl)) <| aw_pure 7 (.slice At119 (putN l Q x y u n) ct120) rfl (by kernel_rfl) .none H126 (fun _ => dv_extract (vs := #[.slice At119 (putN l Q x y u n) ct120, qd (putS l Q x y u n)]) (T rfl rfl) rfl) <| aw_pure 8 (qd (putS l Q x y u n)) rfl (by kernel_rfl) .none H126 (fun _ => dv_extract (vs := #[.slice At119 (putN l Q x y u n) ct120, qd (putS l Q x y u n)]) (T rfl rfl) rfl) <| aw_pure 9 (.slice At119 (putN l Q x y u n) ct120) rfl (by kernel_rfl) .none H126 (fun _ => dv_assign (T rfl rfl)) <| aw_last 10 (qd (putS l Q x y u n)) rfl (by kernel_rfl) .none (fun _ => dv_assign (T rfl rfl)) <| aw_done (by kernel_rfl) <| rk_seq <| rk_seq <| rk_reg <| lw_v (.slice At119 (putN l Q x y u n) ct120) (dv_move (T rfl rfl)) <| lw_v (.slice At30 (putN l Q x y u n) ct31) (dv_move (T rfl rfl)) ?_
           have h127 := (((((((h84.ext e86).mid e95 (by omega)).ext e98).ext d103.ext).ext e111).ext e115).ext e124)
           refine lw_e (oe_callf (vs := [.slice At119 (putN l Q x y u n) ct120, .slice At30 (putN l Q x y u n) ct31]) co9 (ar2 (T rfl rfl) (T rfl rfl)) (eqEventS_ok (c := ct120) (d := ct31) hNt122.nr (by omega) hxf2 h127.nr) ?_)
           rintro _ w128 ⟨rfl, e129⟩
           have := Below.fresh e129
           have E130 := below_ext E125 E125.size e129
           refine lw_v (.bool false) (dv_not (b := true) (T rfl rfl)) <| lw_v (.bool false) (dv_move (T rfl rfl)) <| lw_vy (qd (putS l Q x y u n)) (d := 96) rfl rfl (rfl) (dv_move (T rfl rfl)) <| lw_vy (qd (putS l Q x y u n)) (d := 96) rfl rfl (rfl) (dv_move (T rfl rfl)) <| lw_vy (.bool ((decide (putS l Q x y u n)) != (decide (putS l Q x y u n)))) (d := 96) rfl rfl (rfl) (dv_neqb (a := decide (putS l Q x y u n)) (b := decide (putS l Q x y u n)) ub4 (T rfl rfl) (T rfl rfl)) <| lw_v (.bool ((decide (putS l Q x y u n)) != (decide (putS l Q x y u n)))) (dv_pick_f (T rfl rfl) (T rfl rfl)) <| lw_nil <| rk_cf (T rfl (congrArg Value.bool hb61)) <| rk_skip <| rk_seq <| rk_reg ?_
           refine lw_v (qi 1) (dv_assign C) <| qN <| lw_v (.slice At50 (putN l Q x y u n) ct51) (dv_move (T rfl rfl)) <| lw_v (qi 1) (dv_move (T rfl rfl)) ?_
           have h131 := ((((((hN91.ext e98).ext d103.ext).ext e111).ext e115).ext e124).ext e129)
           refine lw_e (oe_callf (vs := [.slice At50 (putN l Q x y u n) ct51, qi 1]) co11 (ar2 (T rfl rfl) (T rfl rfl)) (heldEventS_ok (cc := ct51) (E := (fun i_ => ((putQ l Q x y u n) i_).es)) h131.nr hlm92 hmd93 (fun i_ h_ => evF.n hxf2 h_) (by omega) (by omega)) ?_)
           rintro _ w132 ⟨rfl, e133⟩
           have := Below.fresh e133
           have E134 := below_ext E130 E130.size e133
           refine lw_v (qi (kAt 1 ((fun i_ => ((putQ l Q x y u n) i_).es)) (putN l Q x y u n))) (dv_assign (T rfl rfl)) <| lw_nil <| rk_seq <| rk_seq <| rk_reg <| lw_v (qi (kAt 1 ((fun i_ => ((putQ l Q x y u n) i_).es)) (putN l Q x y u n))) (dv_move (T rfl rfl)) <| lw_v (qd ((kAt 1 ((fun i_ => ((putQ l Q x y u n) i_).es)) (putN l Q x y u n)) < 0)) (dv_lss (a := kAt 1 ((fun i_ => ((putQ l Q x y u n) i_).es)) (putN l Q x y u n)) (b := 0) (T rfl rfl) C) <| lw_nil <| rk_cf (T rfl (qF hb100)) <| rk_skip <| rk_seq ?_
           refine rk_seq <| rk_reg <| lw_v (qi (kAt 1 ((fun i_ => ((putQ l Q x y u n) i_).es)) (putN l Q x y u n))) (dv_move (T rfl rfl)) <| lw_v (qi (kAt 1 ((fun i_ => ((putQ l Q x y u n) i_).es)) (putN l Q x y u n))) (dv_move (T rfl rfl)) <| lw_v (qd ((kAt 1 ((fun i_ => ((putQ l Q x y u n) i_).es)) (putN l Q x y u n)) ≠ (kAt 1 ((fun i_ => ((putQ l Q x y u n) i_).es)) (putN l Q x y u n)))) (dv_neq (a := kAt 1 ((fun i_ => ((putQ l Q x y u n) i_).es)) (putN l Q x y u n)) (b := kAt 1 ((fun i_ => ((putQ l Q x y u n) i_).es)) (putN l Q x y u n)) (T rfl rfl) (T rfl rfl)) <| lw_nil <| rk_cf (T rfl (qF hb101)) <| rk_skip <| rk_seq <| rk_reg <| lw_v (.bool true) (dv_assign C) ?_
           refine lw_nil <| rk_ret Tryz.func3 (v := .bool true) (res1 Tryz.results3 (rv_tmp rfl rfl)) ⟨_, rfl, ?_⟩
           exact ⟨rfl, E134⟩
theorem lawEventPut_w {w : World} {x3 x2 x1 x0 y3 y2 y1 y0 u3 u2 u1 u0 n : Int} {A : Option Addr} {l c : Nat} {W : Nat → Nat → Int} {E : Nat → List Int} {SL : SlF} (hx : NR w 0 w.heap.size A l W E SL) (hlc : l ≤ c) (hcm : c ≤ 9223372036854775807) (hSm : ∀ i, i < l → (SL i).2 ≤ 9223372036854775807) (hW : ∀ i, i < l → ∀ j, j < 12 → 0 ≤ W i j ∧ W i j < 18446744073709551616) (hx3 : 0 ≤ x3 ∧ x3 < 18446744073709551616) (hx2 : 0 ≤ x2 ∧ x2 < 18446744073709551616) (hx1 : 0 ≤ x1 ∧ x1 < 18446744073709551616) (hx0 : 0 ≤ x0 ∧ x0 < 18446744073709551616) (hy3 : 0 ≤ y3 ∧ y3 < 18446744073709551616) (hy2 : 0 ≤ y2 ∧ y2 < 18446744073709551616) (hy1 : 0 ≤ y1 ∧ y1 < 18446744073709551616) (hy0 : 0 ≤ y0 ∧ y0 < 18446744073709551616) (hu3 : 0 ≤ u3 ∧ u3 < 18446744073709551616) (hu2 : 0 ≤ u2 ∧ u2 < 18446744073709551616) (hu1 : 0 ≤ u1 ∧ u1 < 18446744073709551616) (hu0 : 0 ≤ u0 ∧ u0 < 18446744073709551616) : Ct Tryz.prog 3 [.slice A l c, .agg #[.int .u64 x3, .int .u64 x2, .int .u64 x1, .int .u64 x0, .int .u64 y3, .int .u64 y2, .int .u64 y1, .int .u64 y0, .int .u64 u3, .int .u64 u2, .int .u64 u1, .int .u64 u0], .int .i64 n] w fun v w1 => v = .bool true ∧ Ext w w1 := by
 obtain ⟨x, fx, rfl, rfl, rfl, rfl⟩ := words_z hx3 hx2 hx1 hx0
 obtain ⟨y, fy, rfl, rfl, rfl, rfl⟩ := words_z hy3 hy2 hy1 hy0
 obtain ⟨u, fu, rfl, rfl, rfl, rfl⟩ := words_z hu3 hu2 hu1 hu0
 obtain ⟨Q, hQ, hE, hf⟩ := evs_of E hW
 have hx2 : NR w 0 w.heap.size A l (fun i_ => evW (Q i_)) (fun i_ => (Q i_).es) SL := hx.congr hQ (fun i _ => hE i)
 exact lawEventPut_ok hx2 hlc hcm (fun i hi => Nat.le_trans (hx2.cap hi) (hSm i hi)) hf fx fy fu
end Go.Proofs.YtmbpomcbdopgnaaGreat.W
