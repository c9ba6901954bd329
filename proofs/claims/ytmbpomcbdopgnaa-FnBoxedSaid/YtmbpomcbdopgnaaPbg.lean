/- Walks and plain mathematics, packed by a program of this session: declarations that the rows reach. -/
import Derived.Test.YtmbpomcbdopgnaaPbf
set_option linter.unusedVariables false
set_option linter.unusedSimpArgs false
namespace Go.Proofs.Ytmbpomcbdopgnaa.W
open Go Go.RowKit Go.Proofs.Ytmbpomcbdopgnaa.Fw
attribute [local irreducible] RunK LW AW DV OE Ct
theorem co10 : callOk Try.prog 10 = true := by kernel_rfl
theorem co13 : callOk Try.prog 13 = true := by kernel_rfl
theorem co14 : callOk Try.prog 14 = true := by kernel_rfl
theorem co7 : callOk Try.prog 7 = true := by kernel_rfl
theorem co8 : callOk Try.prog 8 = true := by kernel_rfl
theorem co9 : callOk Try.prog 9 = true := by kernel_rfl
set_option maxHeartbeats 1000000 in
theorem lawBoxed_ok {w : World} {A : Option Addr} {l c : Nat} {xs : List Int} (hx : RdI w .u8 A xs) (hxl : xs.length = l) (hlc : l ≤ c) (hcm : c ≤ 9223372036854775807) (ok : okW 256 xs) : Ct Try.prog 3 [.slice A l c] w fun v w1 => v = .bool true ∧ Ext w w1 := by
 refine ct_run (n := 172) Try.func3 rfl Try.ntmps3 rfl ?_
 have E0 : Below w.heap.size w w := Below.refl _ _
 refine rk_seq ?_
 refine rk_reg ?_
 refine lw_v (.bool false) (dv_assign C) ?_
 refine lw_nil ?_
 refine rk_seq ?_
 refine rk_seq ?_
 refine rk_reg ?_
 refine lw_v (.slice A l c) (dv_move (T rfl rfl)) ?_
 refine lw_e (oe_callf (vs := [.slice A l c]) co7 (ar1 (T rfl rfl)) (lbig_ok ) ?_)
 rintro _ w1 ⟨rfl, e2⟩
 have E3 := below_ext E0 E0.size e2
 refine lw_nil ?_
 by_cases hb4 : 1048576 < (l : Int)
 · refine rk_ct (T rfl (congrArg Value.bool (decide_eq_true hb4))) ?_
   refine rk_seq ?_
   refine rk_reg ?_
   refine lw_v (.bool true) (dv_assign C) ?_
   refine lw_nil ?_
   refine rk_ret Try.func3 (v := .bool true) (res1 Try.results3 (rv_tmp rfl rfl)) ⟨_, rfl, ?_⟩
   exact ⟨rfl, E3⟩
 · refine rk_cf (T rfl (congrArg Value.bool (decide_eq_false hb4))) ?_
   refine rk_skip ?_
   refine rk_seq ?_
   refine rk_reg ?_
   refine lw_v (.slice A l c) (dv_move (T rfl rfl)) ?_
   have h5 := (hx.ext e2)
   refine lw_e (oe_callf (vs := [.slice A l c]) co8 (ar1 (T rfl rfl)) (drawMeetsBox_ok (l := l) (c := c) (xs := xs) h5 (by first | omega | (simp; done) | (simp; omega)) (by first | omega | (simp; done) | (simp; omega)) ok) ?_)
   rintro _ w22 ⟨zi6, zi7, zi8, zi9, zi10, zi11, zi12, zi13, rfl, e23, hz14, hz15, hz16, hz17, hz18, hz19, hz20, hz21⟩
   have E24 := below_ext E3 E3.size e23
   refine lw_v (.tuple #[.agg #[.int .i64 zi6, .int .i64 zi7, .int .i64 zi8, .int .i64 zi9], .agg #[.int .i64 zi10, .int .i64 zi11], .agg #[.int .i64 zi12, .int .i64 zi13]]) (dv_move (T rfl rfl)) ?_
   refine lw_v (.agg #[.int .i64 zi6, .int .i64 zi7, .int .i64 zi8, .int .i64 zi9]) (dv_extract (vs := #[.agg #[.int .i64 zi6, .int .i64 zi7, .int .i64 zi8, .int .i64 zi9], .agg #[.int .i64 zi10, .int .i64 zi11], .agg #[.int .i64 zi12, .int .i64 zi13]]) (T rfl rfl) rfl) ?_
   refine lw_v (.agg #[.int .i64 zi10, .int .i64 zi11]) (dv_extract (vs := #[.agg #[.int .i64 zi6, .int .i64 zi7, .int .i64 zi8, .int .i64 zi9], .agg #[.int .i64 zi10, .int .i64 zi11], .agg #[.int .i64 zi12, .int .i64 zi13]]) (T rfl rfl) rfl) ?_
   refine lw_v (.agg #[.int .i64 zi12, .int .i64 zi13]) (dv_extract (vs := #[.agg #[.int .i64 zi6, .int .i64 zi7, .int .i64 zi8, .int .i64 zi9], .agg #[.int .i64 zi10, .int .i64 zi11], .agg #[.int .i64 zi12, .int .i64 zi13]]) (T rfl rfl) rfl) ?_
   refine lw_e (oe_alloc ze27 ?_)
   intro b25 w26 n27
   have N28 : w.heap.size ≤ b25 := n27.eq ▸ E24.size
   have E29 := below_ext E24 E24.size n27.ext
   refine lw_e (oe_alloc ze25 ?_)
   intro b30 w31 n32
   have N33 : w.heap.size ≤ b30 := n32.eq ▸ E29.size
   have : b25 < b30 := n32.eq ▸ lt_of_blk n27.blk
   have E34 := below_ext E29 E29.size n32.ext
   refine lw_e (oe_alloc ze25 ?_)
   intro b35 w36 n37
   have N38 : w.heap.size ≤ b35 := n37.eq ▸ E34.size
   have : b30 < b35 := n37.eq ▸ lt_of_blk n32.blk
   have E39 := below_ext E34 E34.size n37.ext
   have H40 := (n37.ext.blk (n32.ext.blk n27.blk))
   refine lw_e (oe_store (v := .agg #[.int .i64 zi6, .int .i64 zi7, .int .i64 zi8, .int .i64 zi9]) (vs := [.int .i64 zi6, .int .i64 zi7, .int .i64 zi8, .int .i64 zi9]) (l := [.int .i64 zi6, .int .i64 zi7, .int .i64 zi8, .int .i64 zi9]) (T rfl rfl) (T rfl rfl) sz27 rfl rfl rfl H40 rfl ?_)
   intro w41 s42 H43
   have E44 := below_st E39 N28 s42
   have H45 := (s42.blk (n37.ext.blk n32.blk) (by omega))
   refine lw_e (oe_store (v := .agg #[.int .i64 zi10, .int .i64 zi11]) (vs := [.int .i64 zi10, .int .i64 zi11]) (l := [.int .i64 zi10, .int .i64 zi11]) (T rfl rfl) (T rfl rfl) sz25 rfl rfl rfl H45 rfl ?_)
   intro w46 s47 H48
   have E49 := below_st E44 N33 s47
   have H50 := (s47.blk (s42.blk n37.blk (by omega)) (by omega))
   refine lw_e (oe_store (v := .agg #[.int .i64 zi12, .int .i64 zi13]) (vs := [.int .i64 zi12, .int .i64 zi13]) (l := [.int .i64 zi12, .int .i64 zi13]) (T rfl rfl) (T rfl rfl) sz25 rfl rfl rfl H50 rfl ?_)
   intro w51 s52 H53
   have E54 := below_st E49 N38 s52
   refine lw_nil ?_
   refine rk_seq ?_
   refine rk_reg ?_
   have H55 := (s52.blk (s47.blk H43 (by omega)) (by omega))
   refine lw_v (.agg #[.int .i64 zi6, .int .i64 zi7, .int .i64 zi8, .int .i64 zi9]) (dv_loads (l := [.int .i64 zi6, .int .i64 zi7, .int .i64 zi8, .int .i64 zi9]) agt27 sz27 (T rfl rfl) H55 rfl) ?_
   have H56 := (s52.blk H48 (by omega))
   refine lw_v (.agg #[.int .i64 zi10, .int .i64 zi11]) (dv_loads (l := [.int .i64 zi10, .int .i64 zi11]) agt25 sz25 (T rfl rfl) H56 rfl) ?_
   refine lw_v (.agg #[.int .i64 zi12, .int .i64 zi13]) (dv_loads (l := [.int .i64 zi12, .int .i64 zi13]) agt25 sz25 (T rfl rfl) H53 rfl) ?_
   refine lw_e (oe_callf (vs := [.agg #[.int .i64 zi6, .int .i64 zi7, .int .i64 zi8, .int .i64 zi9], .agg #[.int .i64 zi10, .int .i64 zi11], .agg #[.int .i64 zi12, .int .i64 zi13]]) co9 (ar3 (T rfl rfl) (T rfl rfl) (T rfl rfl)) (iMeetsBox_ok (ax := zi6) (ay := zi7) (bx := zi8) (b_y := zi9) (lx := zi10) (ly := zi11) (hx := zi12) (hy := zi13)  ) ?_)
   rintro _ w57 ⟨rfl, e58⟩
   have E59 := below_ext E54 E54.size e58
   refine lw_v (.bool (decide (segOk zi6 zi7 zi8 zi9 ∧ bxOk zi10 zi11 zi12 zi13 ∧ mbV zi6 zi7 zi8 zi9 zi10 zi11 zi12 zi13))) (dv_assign (T rfl rfl)) ?_
   refine lw_nil ?_
   refine rk_seq ?_
   refine rk_seq ?_
   refine rk_reg ?_
   refine lw_v (.bool (decide (segOk zi6 zi7 zi8 zi9 ∧ bxOk zi10 zi11 zi12 zi13 ∧ mbV zi6 zi7 zi8 zi9 zi10 zi11 zi12 zi13))) (dv_move (T rfl rfl)) ?_
   have H60 := (e58.blk H55)
   refine lw_v (.agg #[.int .i64 zi6, .int .i64 zi7, .int .i64 zi8, .int .i64 zi9]) (dv_loads (l := [.int .i64 zi6, .int .i64 zi7, .int .i64 zi8, .int .i64 zi9]) agt27 sz27 (T rfl rfl) H60 rfl) ?_
   have H61 := (e58.blk H56)
   refine lw_v (.agg #[.int .i64 zi10, .int .i64 zi11]) (dv_loads (l := [.int .i64 zi10, .int .i64 zi11]) agt25 sz25 (T rfl rfl) H61 rfl) ?_
   have H62 := (e58.blk H53)
   refine lw_v (.agg #[.int .i64 zi12, .int .i64 zi13]) (dv_loads (l := [.int .i64 zi12, .int .i64 zi13]) agt25 sz25 (T rfl rfl) H62 rfl) ?_
   refine lw_e (oe_callf (vs := [.agg #[.int .i64 zi6, .int .i64 zi7, .int .i64 zi8, .int .i64 zi9], .agg #[.int .i64 zi10, .int .i64 zi11], .agg #[.int .i64 zi12, .int .i64 zi13]]) co10 (ar3 (T rfl rfl) (T rfl rfl) (T rfl rfl)) (sMeetsBox_ok (ax := zi6) (ay := zi7) (bx := zi8) (b_y := zi9) (lx := zi10) (ly := zi11) (hx := zi12) (hy := zi13)  ) ?_)
   rintro _ w63 ⟨rfl, e64⟩
   have E65 := below_ext E59 E59.size e64
   refine lw_v (.bool ((decide (segOk zi6 zi7 zi8 zi9 ∧ bxOk zi10 zi11 zi12 zi13 ∧ mbV zi6 zi7 zi8 zi9 zi10 zi11 zi12 zi13)) != (decide (segOk zi6 zi7 zi8 zi9 ∧ bxOk zi10 zi11 zi12 zi13 ∧ mbV zi6 zi7 zi8 zi9 zi10 zi11 zi12 zi13)))) (dv_neqb (a := decide (segOk zi6 zi7 zi8 zi9 ∧ bxOk zi10 zi11 zi12 zi13 ∧ mbV zi6 zi7 zi8 zi9 zi10 zi11 zi12 zi13)) (b := decide (segOk zi6 zi7 zi8 zi9 ∧ bxOk zi10 zi11 zi12 zi13 ∧ mbV zi6 zi7 zi8 zi9 zi10 zi11 zi12 zi13)) ub4 (T rfl rfl) (T rfl rfl)) ?_
   refine lw_nil ?_
   rcases Bool.eq_false_or_eq_true ((decide (segOk zi6 zi7 zi8 zi9 ∧ bxOk zi10 zi11 zi12 zi13 ∧ mbV zi6 zi7 zi8 zi9 zi10 zi11 zi12 zi13)) != (decide (segOk zi6 zi7 zi8 zi9 ∧ bxOk zi10 zi11 zi12 zi13 ∧ mbV zi6 zi7 zi8 zi9 zi10 zi11 zi12 zi13))) with hb66 | hb66
   · refine rk_ct (T rfl (congrArg Value.bool hb66)) ?_
     refine rk_seq ?_
     refine rk_reg ?_
     refine lw_v (.bool false) (dv_assign C) ?_
     refine lw_nil ?_
     refine rk_ret Try.func3 (v := .bool false) (res1 Try.results3 (rv_tmp rfl rfl)) ⟨_, rfl, ?_⟩
     exact ⟨(by exfalso; exact cB2 hb66), E65⟩
   · refine rk_cf (T rfl (congrArg Value.bool hb66)) ?_
     refine rk_skip ?_
     refine rk_seq ?_
     refine rk_seq ?_
     refine rk_reg ?_
     have H67 := (e64.blk H60)
     refine lw_v (.agg #[.int .i64 zi6, .int .i64 zi7, .int .i64 zi8, .int .i64 zi9]) (dv_loads (l := [.int .i64 zi6, .int .i64 zi7, .int .i64 zi8, .int .i64 zi9]) agt27 sz27 (T rfl rfl) H67 rfl) ?_
     refine lw_e (oe_callf (vs := [.agg #[.int .i64 zi6, .int .i64 zi7, .int .i64 zi8, .int .i64 zi9]]) co11 (ar1 (T rfl rfl)) (iSegOk_ok (ax := zi6) (ay := zi7) (bx := zi8) (b_y := zi9)  ) ?_)
     rintro _ w68 ⟨rfl, e69⟩
     have E70 := below_ext E65 E65.size e69
     refine lw_v (.bool (decide (¬ (segOk zi6 zi7 zi8 zi9)))) (dv_notd (p := segOk zi6 zi7 zi8 zi9) (T rfl rfl)) ?_
     refine lw_v (.bool (decide (¬ (segOk zi6 zi7 zi8 zi9)))) (dv_move (T rfl rfl)) ?_
     by_cases hb71 : segOk zi6 zi7 zi8 zi9
     · have := segOk_rg hb71
       have H72 := (e69.blk (e64.blk H61))
       refine lw_vy (.agg #[.int .i64 zi10, .int .i64 zi11]) (d := 36) rfl rfl (congrArg Value.bool (decide_eq_false (not_not_intro hb71))) (dv_loads (l := [.int .i64 zi10, .int .i64 zi11]) agt25 sz25 (T rfl rfl) H72 rfl) ?_
       refine lw_ey (d := 36) rfl rfl (congrArg Value.bool (decide_eq_false (not_not_intro hb71))) (oe_callf (vs := [.agg #[.int .i64 zi10, .int .i64 zi11]]) co12 (ar1 (T rfl rfl)) (iSpotOk_ok (x := zi10) (y := zi11)  ) ?_)
       rintro _ w73 ⟨rfl, e74⟩
       have E75 := below_ext E70 E70.size e74
       refine lw_vy (.bool (decide (¬ (spotOk zi10 zi11)))) (d := 36) rfl rfl (congrArg Value.bool (decide_eq_false (not_not_intro hb71))) (dv_notd (p := spotOk zi10 zi11) (T rfl rfl)) ?_
       refine lw_v (.bool (decide (¬ (spotOk zi10 zi11)))) (dv_pick_f (T rfl (congrArg Value.bool (decide_eq_false (not_not_intro hb71)))) (T rfl rfl)) ?_
       refine lw_v (.bool (decide (¬ (spotOk zi10 zi11)))) (dv_move (T rfl rfl)) ?_
       by_cases hb76 : spotOk zi10 zi11
       · have := spotOk_rg hb76
         have H77 := (e74.blk (e69.blk (e64.blk H62)))
         refine lw_vy (.agg #[.int .i64 zi12, .int .i64 zi13]) (d := 41) rfl rfl (congrArg Value.bool (decide_eq_false (not_not_intro hb76))) (dv_loads (l := [.int .i64 zi12, .int .i64 zi13]) agt25 sz25 (T rfl rfl) H77 rfl) ?_
         refine lw_ey (d := 41) rfl rfl (congrArg Value.bool (decide_eq_false (not_not_intro hb76))) (oe_callf (vs := [.agg #[.int .i64 zi12, .int .i64 zi13]]) co12 (ar1 (T rfl rfl)) (iSpotOk_ok (x := zi12) (y := zi13)  ) ?_)
         rintro _ w78 ⟨rfl, e79⟩
         have E80 := below_ext E75 E75.size e79
         refine lw_vy (.bool (decide (¬ (spotOk zi12 zi13)))) (d := 41) rfl rfl (congrArg Value.bool (decide_eq_false (not_not_intro hb76))) (dv_notd (p := spotOk zi12 zi13) (T rfl rfl)) ?_
         refine lw_v (.bool (decide (¬ (spotOk zi12 zi13)))) (dv_pick_f (T rfl (congrArg Value.bool (decide_eq_false (not_not_intro hb76)))) (T rfl rfl)) ?_
         refine lw_v (.bool (decide (¬ (spotOk zi12 zi13)))) (dv_move (T rfl rfl)) ?_
         by_cases hb81 : spotOk zi12 zi13
         · have := spotOk_rg hb81
           refine lw_vy (.pointer (some ⟨b30, 0, none⟩)) (d := 46) rfl rfl (congrArg Value.bool (decide_eq_false (not_not_intro hb81))) (dv_fieldAddr (a := ⟨b30, 0, none⟩) (a' := ⟨b30, 0, none⟩) fo25_0 (T rfl rfl) rfl) ?_
           have H82 := (e79.blk (e74.blk H72))
           refine lw_vy (.int .i64 zi10) (d := 46) rfl rfl (congrArg Value.bool (decide_eq_false (not_not_intro hb81))) (dv_load1 (b := b30) (o := 0) agt2 (T rfl rfl) H82 rfl) ?_
           refine lw_vy (.pointer (some ⟨b35, 0, none⟩)) (d := 46) rfl rfl (congrArg Value.bool (decide_eq_false (not_not_intro hb81))) (dv_fieldAddr (a := ⟨b35, 0, none⟩) (a' := ⟨b35, 0, none⟩) fo25_0 (T rfl rfl) rfl) ?_
           have H83 := (e79.blk H77)
           refine lw_vy (.int .i64 zi12) (d := 46) rfl rfl (congrArg Value.bool (decide_eq_false (not_not_intro hb81))) (dv_load1 (b := b35) (o := 0) agt2 (T rfl rfl) H83 rfl) ?_
           refine lw_vy (.bool (decide (zi12 ≤ zi10))) (d := 46) rfl rfl (congrArg Value.bool (decide_eq_false (not_not_intro hb81))) (dv_geq (a := zi10) (b := zi12) (T rfl rfl) (T rfl rfl)) ?_
           refine lw_v (.bool (decide (zi12 ≤ zi10))) (dv_pick_f (T rfl (congrArg Value.bool (decide_eq_false (not_not_intro hb81)))) (T rfl rfl)) ?_
           refine lw_v (.bool (decide (zi12 ≤ zi10))) (dv_move (T rfl rfl)) ?_
           by_cases hb84 : zi12 ≤ zi10
           · refine lw_no (d := 53) rfl rfl (congrArg Value.bool (decide_eq_true hb84)) ?_
             refine lw_no (d := 53) rfl rfl (congrArg Value.bool (decide_eq_true hb84)) ?_
             refine lw_no (d := 53) rfl rfl (congrArg Value.bool (decide_eq_true hb84)) ?_
             refine lw_no (d := 53) rfl rfl (congrArg Value.bool (decide_eq_true hb84)) ?_
             refine lw_no (d := 53) rfl rfl (congrArg Value.bool (decide_eq_true hb84)) ?_
             refine lw_v (.bool true) (dv_pick_t (T rfl (congrArg Value.bool (decide_eq_true hb84))) C) ?_
             refine lw_nil ?_
             refine rk_ct (T rfl rfl) ?_
             refine rk_seq ?_
             refine rk_reg ?_
             refine lw_v (.bool true) (dv_assign C) ?_
             refine lw_nil ?_
             refine rk_ret Try.func3 (v := .bool true) (res1 Try.results3 (rv_tmp rfl rfl)) ⟨_, rfl, ?_⟩
             exact ⟨rfl, E80⟩
           · refine lw_vy (.pointer (some ⟨b30, 1, none⟩)) (d := 53) rfl rfl (congrArg Value.bool (decide_eq_false hb84)) (dv_fieldAddr (a := ⟨b30, 0, none⟩) (a' := ⟨b30, 1, none⟩) fo25_1 (T rfl rfl) rfl) ?_
             refine lw_vy (.int .i64 zi11) (d := 53) rfl rfl (congrArg Value.bool (decide_eq_false hb84)) (dv_load1 (b := b30) (o := 1) agt2 (T rfl rfl) H82 rfl) ?_
             refine lw_vy (.pointer (some ⟨b35, 1, none⟩)) (d := 53) rfl rfl (congrArg Value.bool (decide_eq_false hb84)) (dv_fieldAddr (a := ⟨b35, 0, none⟩) (a' := ⟨b35, 1, none⟩) fo25_1 (T rfl rfl) rfl) ?_
             refine lw_vy (.int .i64 zi13) (d := 53) rfl rfl (congrArg Value.bool (decide_eq_false hb84)) (dv_load1 (b := b35) (o := 1) agt2 (T rfl rfl) H83 rfl) ?_
             refine lw_vy (.bool (decide (zi13 ≤ zi11))) (d := 53) rfl rfl (congrArg Value.bool (decide_eq_false hb84)) (dv_geq (a := zi11) (b := zi13) (T rfl rfl) (T rfl rfl)) ?_
             refine lw_v (.bool (decide (zi13 ≤ zi11))) (dv_pick_f (T rfl (congrArg Value.bool (decide_eq_false hb84))) (T rfl rfl)) ?_
             refine lw_nil ?_
             by_cases hb85 : zi13 ≤ zi11
             · refine rk_ct (T rfl (congrArg Value.bool (decide_eq_true hb85))) ?_
               refine rk_seq ?_
               refine rk_reg ?_
               refine lw_v (.bool true) (dv_assign C) ?_
               refine lw_nil ?_
               refine rk_ret Try.func3 (v := .bool true) (res1 Try.results3 (rv_tmp rfl rfl)) ⟨_, rfl, ?_⟩
               exact ⟨rfl, E80⟩
             · refine rk_cf (T rfl (congrArg Value.bool (decide_eq_false hb85))) ?_
               refine rk_skip ?_
               refine rk_seq ?_
               refine rk_join (fun fr wl => ∃ (qa : Bool), fr 2 = .bool false ∧ fr 3 = .pointer (some ⟨b25, 0, none⟩) ∧ fr 4 = .pointer (some ⟨b30, 0, none⟩) ∧ fr 5 = .pointer (some ⟨b35, 0, none⟩) ∧ fr 6 = .bool (decide (segOk zi6 zi7 zi8 zi9 ∧ bxOk zi10 zi11 zi12 zi13 ∧ mbV zi6 zi7 zi8 zi9 zi10 zi11 zi12 zi13)) ∧ fr 7 = .bool qa ∧ Below w.heap.size w wl ∧ wl.heap[b25]? = some (.cells #[.int .i64 zi6, .int .i64 zi7, .int .i64 zi8, .int .i64 zi9] 27) ∧ wl.heap[b30]? = some (.cells #[.int .i64 zi10, .int .i64 zi11] 25) ∧ wl.heap[b35]? = some (.cells #[.int .i64 zi12, .int .i64 zi13] 25) ∧ (qa = true ↔ inB zi10 zi11 zi12 zi13 zi6 zi7)) ?_ (fun hj88 => ?_)
               · intro fr89 w86 hI87
                 obtain ⟨qa, f90, f91, f92, f93, f94, f95, E96, H97, H98, H99, hqa⟩ := hI87
                 refine rk_seq ?_
                 refine rk_reg ?_
                 refine lw_v (.agg #[.int .i64 zi10, .int .i64 zi11]) (dv_loads (l := [.int .i64 zi10, .int .i64 zi11]) agt25 sz25 (T rfl f92) H98 rfl) ?_
                 refine lw_v (.pointer (some ⟨b35, 0, none⟩)) (dv_fieldAddr (a := ⟨b35, 0, none⟩) (a' := ⟨b35, 0, none⟩) fo25_0 (T rfl f93) rfl) ?_
                 refine lw_v (.int .i64 zi12) (dv_load1 (b := b35) (o := 0) agt2 (T rfl rfl) H99 rfl) ?_
                 refine lw_v (.pointer (some ⟨b30, 1, none⟩)) (dv_fieldAddr (a := ⟨b30, 0, none⟩) (a' := ⟨b30, 1, none⟩) fo25_1 (T rfl f92) rfl) ?_
                 refine lw_v (.int .i64 zi11) (dv_load1 (b := b30) (o := 1) agt2 (T rfl rfl) H98 rfl) ?_
                 refine lw_v (.agg #[.int .i64 zi12, .int .i64 zi11]) (dv_build (pv := [(0, .int .i64 zi12), (1, .int .i64 zi11)]) (l := [.int .i64 zi12, .int .i64 zi11]) zc25 pl25 ⟨rfl, (T rfl rfl), ⟨rfl, (T rfl rfl), trivial⟩⟩ rfl) ?_
                 refine lw_v (.agg #[.int .i64 zi12, .int .i64 zi13]) (dv_loads (l := [.int .i64 zi12, .int .i64 zi13]) agt25 sz25 (T rfl f93) H99 rfl) ?_
                 refine lw_v (.pointer (some ⟨b30, 0, none⟩)) (dv_fieldAddr (a := ⟨b30, 0, none⟩) (a' := ⟨b30, 0, none⟩) fo25_0 (T rfl f92) rfl) ?_
                 refine lw_v (.int .i64 zi10) (dv_load1 (b := b30) (o := 0) agt2 (T rfl rfl) H98 rfl) ?_
                 refine lw_v (.pointer (some ⟨b35, 1, none⟩)) (dv_fieldAddr (a := ⟨b35, 0, none⟩) (a' := ⟨b35, 1, none⟩) fo25_1 (T rfl f93) rfl) ?_
                 refine lw_v (.int .i64 zi13) (dv_load1 (b := b35) (o := 1) agt2 (T rfl rfl) H99 rfl) ?_
                 refine lw_v (.agg #[.int .i64 zi10, .int .i64 zi13]) (dv_build (pv := [(0, .int .i64 zi10), (1, .int .i64 zi13)]) (l := [.int .i64 zi10, .int .i64 zi13]) zc25 pl25 ⟨rfl, (T rfl rfl), ⟨rfl, (T rfl rfl), trivial⟩⟩ rfl) ?_
                 refine lw_e (oe_buildSlice (pv := [(0, .agg #[.int .i64 zi10, .int .i64 zi11]), (1, .agg #[.int .i64 zi12, .int .i64 zi11]), (2, .agg #[.int .i64 zi12, .int .i64 zi13]), (3, .agg #[.int .i64 zi10, .int .i64 zi13])]) (init := [.int .i64 0, .int .i64 0, .int .i64 0, .int .i64 0, .int .i64 0, .int .i64 0, .int .i64 0, .int .i64 0]) (l := [.int .i64 zi10, .int .i64 zi11, .int .i64 zi12, .int .i64 zi11, .int .i64 zi12, .int .i64 zi13, .int .i64 zi10, .int .i64 zi13]) us33 sz25 rfl rfl zc25 (by kernel_rfl) ⟨rfl, (T rfl rfl), ⟨rfl, (T rfl rfl), ⟨rfl, (T rfl rfl), ⟨rfl, (T rfl rfl), trivial⟩⟩⟩⟩ rfl ?_)
                 intro b100 w101 n102
                 have N103 : w.heap.size ≤ b100 := n102.eq ▸ E96.size
                 have : b35 < b100 := n102.eq ▸ lt_of_blk H99
                 have E104 := below_ext E96 E96.size n102.ext
                 refine lw_v (.slice (some ⟨b100, 0, none⟩) 4 4) (dv_assign (T rfl rfl)) ?_
                 refine lw_nil ?_
                 refine rk_seq ?_
                 refine rk_seq ?_
                 refine rk_reg ?_
                 refine lw_v (.int .i64 0) (dv_assign C) ?_
                 refine lw_nil ?_
                 refine rk_block ?_
                 have H105 := (n102.ext.blk H97)
                 have H106 := (n102.ext.blk H98)
                 have H107 := (n102.ext.blk H99)
                 refine rk_loop (fun dm_ fr wl => ∃ (i : Nat) (qb : Bool), dm_ = 4 - i ∧ fr 2 = .bool false ∧ fr 3 = .pointer (some ⟨b25, 0, none⟩) ∧ fr 4 = .pointer (some ⟨b30, 0, none⟩) ∧ fr 5 = .pointer (some ⟨b35, 0, none⟩) ∧ fr 6 = .bool (decide (segOk zi6 zi7 zi8 zi9 ∧ bxOk zi10 zi11 zi12 zi13 ∧ mbV zi6 zi7 zi8 zi9 zi10 zi11 zi12 zi13)) ∧ fr 7 = .bool qb ∧ fr 8 = .slice (some ⟨b100, 0, none⟩) 4 4 ∧ fr 9 = .int .i64 ((i : Int)) ∧ Below w.heap.size w wl ∧ wl.heap[b25]? = some (.cells #[.int .i64 zi6, .int .i64 zi7, .int .i64 zi8, .int .i64 zi9] 27) ∧ wl.heap[b30]? = some (.cells #[.int .i64 zi10, .int .i64 zi11] 25) ∧ wl.heap[b35]? = some (.cells #[.int .i64 zi12, .int .i64 zi13] 25) ∧ wl.heap[b100]? = some (.cells #[.int .i64 zi10, .int .i64 zi11, .int .i64 zi12, .int .i64 zi11, .int .i64 zi12, .int .i64 zi13, .int .i64 zi10, .int .i64 zi13] 25) ∧ (i ≤ 4) ∧ (qb = true ↔ inB zi10 zi11 zi12 zi13 zi6 zi7 ∨ metN (sM zi6 zi7 zi8 zi9 zi10 zi11 zi12 zi13) i)) (4 - 0) ⟨0, qa, rfl, f90, f91, f92, f93, f94, f95, rfl, (vi (by omega)), E104, H105, H106, H107, n102.blk, (Nat.zero_le _), (by rw [hqa]; show _ ↔ _ ∨ False; simp)⟩ ?_
                 intro d112 fr111 w108 hI109 ih110
                 obtain ⟨i, qb, hd126, f113, f114, f115, f116, f117, f118, f119, f120, E121, H122, H123, H124, H125, hi, hqb⟩ := hI109
                 refine rk_seq ?_
                 refine rk_seq ?_
                 refine rk_reg ?_
                 refine lw_v (.int .i64 ((i : Int))) (dv_move (T rfl f120)) ?_
                 refine lw_v (.bool (decide (((i : Int)) < 4))) (dv_lss (a := (i : Int)) (b := 4) (T rfl rfl) C) ?_
                 refine lw_nil ?_
                 by_cases hb127 : ((i : Int)) < 4
                 · refine rk_ct (T rfl (congrArg Value.bool (decide_eq_true hb127))) ?_
                   refine rk_skip ?_
                   refine rk_seq ?_
                   refine rk_block ?_
                   refine rk_seq ?_
                   have : b25 < w108.heap.size := lt_of_blk H122
                   have : b30 < w108.heap.size := lt_of_blk H123
                   have : b35 < w108.heap.size := lt_of_blk H124
                   have : b100 < w108.heap.size := lt_of_blk H125
                   have : w.heap.size ≤ w108.heap.size := E121.size
                   refine rk_par2 [fun vq wq_ => vq = .slice (some ⟨b100, 0, none⟩) 4 4, fun vq wq_ => vq = .int .i64 ((i : Int)), fun vq wq_ => vq = .pointer (some ⟨b100, (i * 2), none⟩), fun vq wq_ => vq = .agg #[.int .i64 (([zi10, zi11, zi12, zi11, zi12, zi13, zi10, zi13]).getD (i * 2) 0), .int .i64 (([zi10, zi11, zi12, zi11, zi12, zi13, zi10, zi13]).getD (i * 2 + 1) 0)], fun vq wq_ => vq = .slice (some ⟨b100, 0, none⟩) 4 4, fun vq wq_ => vq = .int .i64 ((i : Int)), fun vq wq_ => vq = .int .i64 (((i : Int)) + 1), fun vq wq_ => vq = .int .i64 ((((i : Int)) + 1) % 4), fun vq wq_ => vq = .pointer (some ⟨b100, (((((i) + 1) % 4)) * 2), none⟩), fun vq wq_ => vq = .agg #[.int .i64 (([zi10, zi11, zi12, zi11, zi12, zi13, zi10, zi13]).getD (((((i) + 1) % 4)) * 2) 0), .int .i64 (([zi10, zi11, zi12, zi11, zi12, zi13, zi10, zi13]).getD (((((i) + 1) % 4)) * 2 + 1) 0)], fun vq wq_ => vq = .tuple #[.agg #[.int .i64 (so0 (([zi10, zi11, zi12, zi11, zi12, zi13, zi10, zi13]).getD (i * 2) 0) (([zi10, zi11, zi12, zi11, zi12, zi13, zi10, zi13]).getD (i * 2 + 1) 0) (([zi10, zi11, zi12, zi11, zi12, zi13, zi10, zi13]).getD (((((i) + 1) % 4)) * 2) 0) (([zi10, zi11, zi12, zi11, zi12, zi13, zi10, zi13]).getD (((((i) + 1) % 4)) * 2 + 1) 0)), .int .i64 (so1 (([zi10, zi11, zi12, zi11, zi12, zi13, zi10, zi13]).getD (i * 2) 0) (([zi10, zi11, zi12, zi11, zi12, zi13, zi10, zi13]).getD (i * 2 + 1) 0) (([zi10, zi11, zi12, zi11, zi12, zi13, zi10, zi13]).getD (((((i) + 1) % 4)) * 2) 0) (([zi10, zi11, zi12, zi11, zi12, zi13, zi10, zi13]).getD (((((i) + 1) % 4)) * 2 + 1) 0)), .int .i64 (so2 (([zi10, zi11, zi12, zi11, zi12, zi13, zi10, zi13]).getD (i * 2) 0) (([zi10, zi11, zi12, zi11, zi12, zi13, zi10, zi13]).getD (i * 2 + 1) 0) (([zi10, zi11, zi12, zi11, zi12, zi13, zi10, zi13]).getD (((((i) + 1) % 4)) * 2) 0) (([zi10, zi11, zi12, zi11, zi12, zi13, zi10, zi13]).getD (((((i) + 1) % 4)) * 2 + 1) 0)), .int .i64 (so3 (([zi10, zi11, zi12, zi11, zi12, zi13, zi10, zi13]).getD (i * 2) 0) (([zi10, zi11, zi12, zi11, zi12, zi13, zi10, zi13]).getD (i * 2 + 1) 0) (([zi10, zi11, zi12, zi11, zi12, zi13, zi10, zi13]).getD (((((i) + 1) % 4)) * 2) 0) (([zi10, zi11, zi12, zi11, zi12, zi13, zi10, zi13]).getD (((((i) + 1) % 4)) * 2 + 1) 0))], .bool (decide (soS (([zi10, zi11, zi12, zi11, zi12, zi13, zi10, zi13]).getD (i * 2) 0) (([zi10, zi11, zi12, zi11, zi12, zi13, zi10, zi13]).getD (i * 2 + 1) 0) (([zi10, zi11, zi12, zi11, zi12, zi13, zi10, zi13]).getD (((((i) + 1) % 4)) * 2) 0) (([zi10, zi11, zi12, zi11, zi12, zi13, zi10, zi13]).getD (((((i) + 1) % 4)) * 2 + 1) 0)))], fun vq wq_ => vq = .tuple #[.agg #[.int .i64 (so0 (([zi10, zi11, zi12, zi11, zi12, zi13, zi10, zi13]).getD (i * 2) 0) (([zi10, zi11, zi12, zi11, zi12, zi13, zi10, zi13]).getD (i * 2 + 1) 0) (([zi10, zi11, zi12, zi11, zi12, zi13, zi10, zi13]).getD (((((i) + 1) % 4)) * 2) 0) (([zi10, zi11, zi12, zi11, zi12, zi13, zi10, zi13]).getD (((((i) + 1) % 4)) * 2 + 1) 0)), .int .i64 (so1 (([zi10, zi11, zi12, zi11, zi12, zi13, zi10, zi13]).getD (i * 2) 0) (([zi10, zi11, zi12, zi11, zi12, zi13, zi10, zi13]).getD (i * 2 + 1) 0) (([zi10, zi11, zi12, zi11, zi12, zi13, zi10, zi13]).getD (((((i) + 1) % 4)) * 2) 0) (([zi10, zi11, zi12, zi11, zi12, zi13, zi10, zi13]).getD (((((i) + 1) % 4)) * 2 + 1) 0)), .int .i64 (so2 (([zi10, zi11, zi12, zi11, zi12, zi13, zi10, zi13]).getD (i * 2) 0) (([zi10, zi11, zi12, zi11, zi12, zi13, zi10, zi13]).getD (i * 2 + 1) 0) (([zi10, zi11, zi12, zi11, zi12, zi13, zi10, zi13]).getD (((((i) + 1) % 4)) * 2) 0) (([zi10, zi11, zi12, zi11, zi12, zi13, zi10, zi13]).getD (((((i) + 1) % 4)) * 2 + 1) 0)), .int .i64 (so3 (([zi10, zi11, zi12, zi11, zi12, zi13, zi10, zi13]).getD (i * 2) 0) (([zi10, zi11, zi12, zi11, zi12, zi13, zi10, zi13]).getD (i * 2 + 1) 0) (([zi10, zi11, zi12, zi11, zi12, zi13, zi10, zi13]).getD (((((i) + 1) % 4)) * 2) 0) (([zi10, zi11, zi12, zi11, zi12, zi13, zi10, zi13]).getD (((((i) + 1) % 4)) * 2 + 1) 0))], .bool (decide (soS (([zi10, zi11, zi12, zi11, zi12, zi13, zi10, zi13]).getD (i * 2) 0) (([zi10, zi11, zi12, zi11, zi12, zi13, zi10, zi13]).getD (i * 2 + 1) 0) (([zi10, zi11, zi12, zi11, zi12, zi13, zi10, zi13]).getD (((((i) + 1) % 4)) * 2) 0) (([zi10, zi11, zi12, zi11, zi12, zi13, zi10, zi13]).getD (((((i) + 1) % 4)) * 2 + 1) 0)))], fun vq wq_ => vq = .agg #[.int .i64 (so0 (([zi10, zi11, zi12, zi11, zi12, zi13, zi10, zi13]).getD (i * 2) 0) (([zi10, zi11, zi12, zi11, zi12, zi13, zi10, zi13]).getD (i * 2 + 1) 0) (([zi10, zi11, zi12, zi11, zi12, zi13, zi10, zi13]).getD (((((i) + 1) % 4)) * 2) 0) (([zi10, zi11, zi12, zi11, zi12, zi13, zi10, zi13]).getD (((((i) + 1) % 4)) * 2 + 1) 0)), .int .i64 (so1 (([zi10, zi11, zi12, zi11, zi12, zi13, zi10, zi13]).getD (i * 2) 0) (([zi10, zi11, zi12, zi11, zi12, zi13, zi10, zi13]).getD (i * 2 + 1) 0) (([zi10, zi11, zi12, zi11, zi12, zi13, zi10, zi13]).getD (((((i) + 1) % 4)) * 2) 0) (([zi10, zi11, zi12, zi11, zi12, zi13, zi10, zi13]).getD (((((i) + 1) % 4)) * 2 + 1) 0)), .int .i64 (so2 (([zi10, zi11, zi12, zi11, zi12, zi13, zi10, zi13]).getD (i * 2) 0) (([zi10, zi11, zi12, zi11, zi12, zi13, zi10, zi13]).getD (i * 2 + 1) 0) (([zi10, zi11, zi12, zi11, zi12, zi13, zi10, zi13]).getD (((((i) + 1) % 4)) * 2) 0) (([zi10, zi11, zi12, zi11, zi12, zi13, zi10, zi13]).getD (((((i) + 1) % 4)) * 2 + 1) 0)), .int .i64 (so3 (([zi10, zi11, zi12, zi11, zi12, zi13, zi10, zi13]).getD (i * 2) 0) (([zi10, zi11, zi12, zi11, zi12, zi13, zi10, zi13]).getD (i * 2 + 1) 0) (([zi10, zi11, zi12, zi11, zi12, zi13, zi10, zi13]).getD (((((i) + 1) % 4)) * 2) 0) (([zi10, zi11, zi12, zi11, zi12, zi13, zi10, zi13]).getD (((((i) + 1) % 4)) * 2 + 1) 0))], fun vq wq_ => vq = .bool (decide (soS (([zi10, zi11, zi12, zi11, zi12, zi13, zi10, zi13]).getD (i * 2) 0) (([zi10, zi11, zi12, zi11, zi12, zi13, zi10, zi13]).getD (i * 2 + 1) 0) (([zi10, zi11, zi12, zi11, zi12, zi13, zi10, zi13]).getD (((((i) + 1) % 4)) * 2) 0) (([zi10, zi11, zi12, zi11, zi12, zi13, zi10, zi13]).getD (((((i) + 1) % 4)) * 2 + 1) 0))), fun _ _ => True, fun _ _ => True, fun vq wq_ => vq = .bool (decide (soS (([zi10, zi11, zi12, zi11, zi12, zi13, zi10, zi13]).getD (i * 2) 0) (([zi10, zi11, zi12, zi11, zi12, zi13, zi10, zi13]).getD (i * 2 + 1) 0) (([zi10, zi11, zi12, zi11, zi12, zi13, zi10, zi13]).getD (((((i) + 1) % 4)) * 2) 0) (([zi10, zi11, zi12, zi11, zi12, zi13, zi10, zi13]).getD (((((i) + 1) % 4)) * 2 + 1) 0)))] [⟨14, 15, 12, 27, #[.int .i64 0, .int .i64 0, .int .i64 0, .int .i64 0]⟩] [27] mo (by kernel_rfl) (by kernel_rfl) ?_ ?_ ?_ ?_ ?_
                   · intro e he e2 he2 h; simp only [List.mem_cons, List.not_mem_nil, or_false] at he he2; rcases he with rfl <;> rcases he2 with rfl <;> first | rfl | exact absurd h (by decide)
                   · exact ⟨⟨fun v w w2 e h => h, fun v w w2 b cs T fz s hb hT h => h⟩, ⟨fun v w w2 e h => h, fun v w w2 b cs T fz s hb hT h => h⟩, ⟨fun v w w2 e h => h, fun v w w2 b cs T fz s hb hT h => h⟩, ⟨fun v w w2 e h => h, fun v w w2 b cs T fz s hb hT h => h⟩, ⟨fun v w w2 e h => h, fun v w w2 b cs T fz s hb hT h => h⟩, ⟨fun v w w2 e h => h, fun v w w2 b cs T fz s hb hT h => h⟩, ⟨fun v w w2 e h => h, fun v w w2 b cs T fz s hb hT h => h⟩, ⟨fun v w w2 e h => h, fun v w w2 b cs T fz s hb hT h => h⟩, ⟨fun v w w2 e h => h, fun v w w2 b cs T fz s hb hT h => h⟩, ⟨fun v w w2 e h => h, fun v w w2 b cs T fz s hb hT h => h⟩, ⟨fun v w w2 e h => h, fun v w w2 b cs T fz s hb hT h => h⟩, ⟨fun v w w2 e h => h, fun v w w2 b cs T fz s hb hT h => h⟩, ⟨fun v w w2 e h => h, fun v w w2 b cs T fz s hb hT h => h⟩, ⟨fun v w w2 e h => h, fun v w w2 b cs T fz s hb hT h => h⟩, ⟨fun v w w2 e h => h, fun v w w2 b cs T fz s hb hT h => h⟩, ⟨fun v w w2 e h => h, fun v w w2 b cs T fz s hb hT h => h⟩, ⟨fun v w w2 e h => h, fun v w w2 b cs T fz s hb hT h => h⟩, trivial⟩
                   · refine ⟨?_, ?_, ?_, ?_, ?_, ?_, ?_, ?_, ?_, ?_, ?_, ?_, ?_, ?_, ?_, ?_, ?_, trivial⟩
                     · refine .inr ⟨by kernel_rfl, ?_⟩
                       intro fr129 w128 e130 hF131 hD132
                       have E133 := below_ext E121 E121.size e130
                       exact DV.oe (dv_move (T rfl ((hF131 8 (by kernel_rfl)).trans f119))) ⟨Below.refl _ _, rfl⟩
                     · refine .inr ⟨by kernel_rfl, ?_⟩
                       intro fr135 w134 e136 hF137 hD138
                       have E139 := below_ext E121 E121.size e136
                       exact DV.oe (dv_move (T rfl ((hF137 9 (by kernel_rfl)).trans f120))) ⟨Below.refl _ _, rfl⟩
                     · refine .inr ⟨by kernel_rfl, ?_⟩
                       intro fr141 w140 e142 hF143 hD144
                       have E145 := below_ext E121 E121.size e142
                       have hv146 : fr141 108 = .slice (some ⟨b100, 0, none⟩) 4 4 := hD144 0 _ (by kernel_rfl) rfl (by kernel_rfl)
                       have hv147 : fr141 109 = .int .i64 ((i : Int)) := hD144 1 _ (by kernel_rfl) rfl (by kernel_rfl)
                       exact DV.oe (dv_indexOM (g := b100) (l := 4) (c := 4) (i := i) (j := (i : Int)) (m := 2) us33 sz25 (T rfl hv146) (T rfl hv147) (by omega) (by first | omega | (simp; done) | (simp; omega))) ⟨Below.refl _ _, rfl⟩
                     · refine .inr ⟨by kernel_rfl, ?_⟩
                       intro fr149 w148 e150 hF151 hD152
                       have E153 := below_ext E121 E121.size e150
                       have hv154 : fr149 110 = .pointer (some ⟨b100, (i * 2), none⟩) := hD152 2 _ (by kernel_rfl) rfl (by kernel_rfl)
                       have H155 := (e150.blk H125)
                       exact DV.oe (dv_loadsO (i := i * 2) (m := 2) (k := .i64) (L := [zi10, zi11, zi12, zi11, zi12, zi13, zi10, zi13]) (l := [.int .i64 (([zi10, zi11, zi12, zi11, zi12, zi13, zi10, zi13]).getD (i * 2) 0), .int .i64 (([zi10, zi11, zi12, zi11, zi12, zi13, zi10, zi13]).getD (i * 2 + 1) 0)]) agt25 sz25 (T rfl hv154) H155 (by first | omega | (simp; done) | (simp; omega)) rfl) ⟨Below.refl _ _, rfl⟩
                     · refine .inr ⟨by kernel_rfl, ?_⟩
                       intro fr157 w156 e158 hF159 hD160
                       have E161 := below_ext E121 E121.size e158
                       exact DV.oe (dv_move (T rfl ((hF159 8 (by kernel_rfl)).trans f119))) ⟨Below.refl _ _, rfl⟩
                     · refine .inr ⟨by kernel_rfl, ?_⟩
                       intro fr163 w162 e164 hF165 hD166
                       have E167 := below_ext E121 E121.size e164
                       exact DV.oe (dv_move (T rfl ((hF165 9 (by kernel_rfl)).trans f120))) ⟨Below.refl _ _, rfl⟩
                     · refine .inr ⟨by kernel_rfl, ?_⟩
                       intro fr169 w168 e170 hF171 hD172
                       have E173 := below_ext E121 E121.size e170
                       have hv174 : fr169 113 = .int .i64 ((i : Int)) := hD172 5 _ (by kernel_rfl) rfl (by kernel_rfl)
                       exact DV.oe (dv_add (a := (i : Int)) (b := 1) (z := ((i : Int)) + 1) (T rfl hv174) C (wr_i64 (by omega) (by omega))) ⟨Below.refl _ _, rfl⟩
                     · refine .inr ⟨by kernel_rfl, ?_⟩
                       intro fr176 w175 e177 hF178 hD179
                       have E180 := below_ext E121 E121.size e177
                       have hv181 : fr176 114 = .int .i64 (((i : Int)) + 1) := hD179 6 _ (by kernel_rfl) rfl (by kernel_rfl)
                       exact DV.oe (dv_rem (a := ((i : Int)) + 1) (b := 4) (z := (((i : Int)) + 1) % 4) (T rfl hv181) C (by decide) (rem_c (by omega) rfl)) ⟨Below.refl _ _, rfl⟩
                     · refine .inr ⟨by kernel_rfl, ?_⟩
                       intro fr183 w182 e184 hF185 hD186
                       have E187 := below_ext E121 E121.size e184
                       have hv188 : fr183 112 = .slice (some ⟨b100, 0, none⟩) 4 4 := hD186 4 _ (by kernel_rfl) rfl (by kernel_rfl)
                       have hv189 : fr183 115 = .int .i64 ((((i : Int)) + 1) % 4) := hD186 7 _ (by kernel_rfl) rfl (by kernel_rfl)
                       exact DV.oe (dv_indexOM (g := b100) (l := 4) (c := 4) (i := (((i) + 1) % 4)) (j := (((i : Int)) + 1) % 4) (m := 2) us33 sz25 (T rfl hv188) (T rfl hv189) (by omega) (by first | omega | (simp; done) | (simp; omega))) ⟨Below.refl _ _, rfl⟩
                     · refine .inr ⟨by kernel_rfl, ?_⟩
                       intro fr191 w190 e192 hF193 hD194
                       have E195 := below_ext E121 E121.size e192
                       have hv196 : fr191 116 = .pointer (some ⟨b100, (((((i) + 1) % 4)) * 2), none⟩) := hD194 8 _ (by kernel_rfl) rfl (by kernel_rfl)
                       have H197 := (e192.blk H125)
                       exact DV.oe (dv_loadsO (i := ((((i) + 1) % 4)) * 2) (m := 2) (k := .i64) (L := [zi10, zi11, zi12, zi11, zi12, zi13, zi10, zi13]) (l := [.int .i64 (([zi10, zi11, zi12, zi11, zi12, zi13, zi10, zi13]).getD (((((i) + 1) % 4)) * 2) 0), .int .i64 (([zi10, zi11, zi12, zi11, zi12, zi13, zi10, zi13]).getD (((((i) + 1) % 4)) * 2 + 1) 0)]) agt25 sz25 (T rfl hv196) H197 (by first | omega | (simp; done) | (simp; omega)) rfl) ⟨Below.refl _ _, rfl⟩
                     · refine .inr ⟨by kernel_rfl, ?_⟩
                       intro fr199 w198 e200 hF201 hD202
                       have E203 := below_ext E121 E121.size e200
                       have hv204 : fr199 111 = .agg #[.int .i64 (([zi10, zi11, zi12, zi11, zi12, zi13, zi10, zi13]).getD (i * 2) 0), .int .i64 (([zi10, zi11, zi12, zi11, zi12, zi13, zi10, zi13]).getD (i * 2 + 1) 0)] := hD202 3 _ (by kernel_rfl) rfl (by kernel_rfl)
                       have hv205 : fr199 117 = .agg #[.int .i64 (([zi10, zi11, zi12, zi11, zi12, zi13, zi10, zi13]).getD (((((i) + 1) % 4)) * 2) 0), .int .i64 (([zi10, zi11, zi12, zi11, zi12, zi13, zi10, zi13]).getD (((((i) + 1) % 4)) * 2 + 1) 0)] := hD202 9 _ (by kernel_rfl) rfl (by kernel_rfl)
                       refine id (oe_callf (vs := [.agg #[.int .i64 (([zi10, zi11, zi12, zi11, zi12, zi13, zi10, zi13]).getD (i * 2) 0), .int .i64 (([zi10, zi11, zi12, zi11, zi12, zi13, zi10, zi13]).getD (i * 2 + 1) 0)], .agg #[.int .i64 (([zi10, zi11, zi12, zi11, zi12, zi13, zi10, zi13]).getD (((((i) + 1) % 4)) * 2) 0), .int .i64 (([zi10, zi11, zi12, zi11, zi12, zi13, zi10, zi13]).getD (((((i) + 1) % 4)) * 2 + 1) 0)]]) co13 (ar2 (T rfl hv204) (T rfl hv205)) (iSegOf_ok (ax := ([zi10, zi11, zi12, zi11, zi12, zi13, zi10, zi13]).getD (i * 2) 0) (ay := ([zi10, zi11, zi12, zi11, zi12, zi13, zi10, zi13]).getD (i * 2 + 1) 0) (bx := ([zi10, zi11, zi12, zi11, zi12, zi13, zi10, zi13]).getD (((((i) + 1) % 4)) * 2) 0) (b_y := ([zi10, zi11, zi12, zi11, zi12, zi13, zi10, zi13]).getD (((((i) + 1) % 4)) * 2 + 1) 0)  ) ?_)
                       rintro _ w206 ⟨rfl, e207⟩
                       have E208 := below_ext E203 E203.size e207
                       have := so_rg (([zi10, zi11, zi12, zi11, zi12, zi13, zi10, zi13]).getD (i * 2) 0) (([zi10, zi11, zi12, zi11, zi12, zi13, zi10, zi13]).getD (i * 2 + 1) 0) (([zi10, zi11, zi12, zi11, zi12, zi13, zi10, zi13]).getD (((((i) + 1) % 4)) * 2) 0) (([zi10, zi11, zi12, zi11, zi12, zi13, zi10, zi13]).getD (((((i) + 1) % 4)) * 2 + 1) 0)
                       exact ⟨e207, rfl⟩
                     · refine .inr ⟨by kernel_rfl, ?_⟩
                       intro fr210 w209 e211 hF212 hD213
                       have E214 := below_ext E121 E121.size e211
                       have hv215 : fr210 118 = .tuple #[.agg #[.int .i64 (so0 (([zi10, zi11, zi12, zi11, zi12, zi13, zi10, zi13]).getD (i * 2) 0) (([zi10, zi11, zi12, zi11, zi12, zi13, zi10, zi13]).getD (i * 2 + 1) 0) (([zi10, zi11, zi12, zi11, zi12, zi13, zi10, zi13]).getD (((((i) + 1) % 4)) * 2) 0) (([zi10, zi11, zi12, zi11, zi12, zi13, zi10, zi13]).getD (((((i) + 1) % 4)) * 2 + 1) 0)), .int .i64 (so1 (([zi10, zi11, zi12, zi11, zi12, zi13, zi10, zi13]).getD (i * 2) 0) (([zi10, zi11, zi12, zi11, zi12, zi13, zi10, zi13]).getD (i * 2 + 1) 0) (([zi10, zi11, zi12, zi11, zi12, zi13, zi10, zi13]).getD (((((i) + 1) % 4)) * 2) 0) (([zi10, zi11, zi12, zi11, zi12, zi13, zi10, zi13]).getD (((((i) + 1) % 4)) * 2 + 1) 0)), .int .i64 (so2 (([zi10, zi11, zi12, zi11, zi12, zi13, zi10, zi13]).getD (i * 2) 0) (([zi10, zi11, zi12, zi11, zi12, zi13, zi10, zi13]).getD (i * 2 + 1) 0) (([zi10, zi11, zi12, zi11, zi12, zi13, zi10, zi13]).getD (((((i) + 1) % 4)) * 2) 0) (([zi10, zi11, zi12, zi11, zi12, zi13, zi10, zi13]).getD (((((i) + 1) % 4)) * 2 + 1) 0)), .int .i64 (so3 (([zi10, zi11, zi12, zi11, zi12, zi13, zi10, zi13]).getD (i * 2) 0) (([zi10, zi11, zi12, zi11, zi12, zi13, zi10, zi13]).getD (i * 2 + 1) 0) (([zi10, zi11, zi12, zi11, zi12, zi13, zi10, zi13]).getD (((((i) + 1) % 4)) * 2) 0) (([zi10, zi11, zi12, zi11, zi12, zi13, zi10, zi13]).getD (((((i) + 1) % 4)) * 2 + 1) 0))], .bool (decide (soS (([zi10, zi11, zi12, zi11, zi12, zi13, zi10, zi13]).getD (i * 2) 0) (([zi10, zi11, zi12, zi11, zi12, zi13, zi10, zi13]).getD (i * 2 + 1) 0) (([zi10, zi11, zi12, zi11, zi12, zi13, zi10, zi13]).getD (((((i) + 1) % 4)) * 2) 0) (([zi10, zi11, zi12, zi11, zi12, zi13, zi10, zi13]).getD (((((i) + 1) % 4)) * 2 + 1) 0)))] := hD213 10 _ (by kernel_rfl) rfl (by kernel_rfl)
                       exact DV.oe (dv_move (T rfl hv215)) ⟨Below.refl _ _, rfl⟩
                     · refine .inr ⟨by kernel_rfl, ?_⟩
                       intro fr217 w216 e218 hF219 hD220
                       have E221 := below_ext E121 E121.size e218
                       have hv222 : fr217 107 = .tuple #[.agg #[.int .i64 (so0 (([zi10, zi11, zi12, zi11, zi12, zi13, zi10, zi13]).getD (i * 2) 0) (([zi10, zi11, zi12, zi11, zi12, zi13, zi10, zi13]).getD (i * 2 + 1) 0) (([zi10, zi11, zi12, zi11, zi12, zi13, zi10, zi13]).getD (((((i) + 1) % 4)) * 2) 0) (([zi10, zi11, zi12, zi11, zi12, zi13, zi10, zi13]).getD (((((i) + 1) % 4)) * 2 + 1) 0)), .int .i64 (so1 (([zi10, zi11, zi12, zi11, zi12, zi13, zi10, zi13]).getD (i * 2) 0) (([zi10, zi11, zi12, zi11, zi12, zi13, zi10, zi13]).getD (i * 2 + 1) 0) (([zi10, zi11, zi12, zi11, zi12, zi13, zi10, zi13]).getD (((((i) + 1) % 4)) * 2) 0) (([zi10, zi11, zi12, zi11, zi12, zi13, zi10, zi13]).getD (((((i) + 1) % 4)) * 2 + 1) 0)), .int .i64 (so2 (([zi10, zi11, zi12, zi11, zi12, zi13, zi10, zi13]).getD (i * 2) 0) (([zi10, zi11, zi12, zi11, zi12, zi13, zi10, zi13]).getD (i * 2 + 1) 0) (([zi10, zi11, zi12, zi11, zi12, zi13, zi10, zi13]).getD (((((i) + 1) % 4)) * 2) 0) (([zi10, zi11, zi12, zi11, zi12, zi13, zi10, zi13]).getD (((((i) + 1) % 4)) * 2 + 1) 0)), .int .i64 (so3 (([zi10, zi11, zi12, zi11, zi12, zi13, zi10, zi13]).getD (i * 2) 0) (([zi10, zi11, zi12, zi11, zi12, zi13, zi10, zi13]).getD (i * 2 + 1) 0) (([zi10, zi11, zi12, zi11, zi12, zi13, zi10, zi13]).getD (((((i) + 1) % 4)) * 2) 0) (([zi10, zi11, zi12, zi11, zi12, zi13, zi10, zi13]).getD (((((i) + 1) % 4)) * 2 + 1) 0))], .bool (decide (soS (([zi10, zi11, zi12, zi11, zi12, zi13, zi10, zi13]).getD (i * 2) 0) (([zi10, zi11, zi12, zi11, zi12, zi13, zi10, zi13]).getD (i * 2 + 1) 0) (([zi10, zi11, zi12, zi11, zi12, zi13, zi10, zi13]).getD (((((i) + 1) % 4)) * 2) 0) (([zi10, zi11, zi12, zi11, zi12, zi13, zi10, zi13]).getD (((((i) + 1) % 4)) * 2 + 1) 0)))] := hD220 11 _ (by kernel_rfl) rfl (by kernel_rfl)
                       exact DV.oe (dv_extract (vs := #[.agg #[.int .i64 (so0 (([zi10, zi11, zi12, zi11, zi12, zi13, zi10, zi13]).getD (i * 2) 0) (([zi10, zi11, zi12, zi11, zi12, zi13, zi10, zi13]).getD (i * 2 + 1) 0) (([zi10, zi11, zi12, zi11, zi12, zi13, zi10, zi13]).getD (((((i) + 1) % 4)) * 2) 0) (([zi10, zi11, zi12, zi11, zi12, zi13, zi10, zi13]).getD (((((i) + 1) % 4)) * 2 + 1) 0)), .int .i64 (so1 (([zi10, zi11, zi12, zi11, zi12, zi13, zi10, zi13]).getD (i * 2) 0) (([zi10, zi11, zi12, zi11, zi12, zi13, zi10, zi13]).getD (i * 2 + 1) 0) (([zi10, zi11, zi12, zi11, zi12, zi13, zi10, zi13]).getD (((((i) + 1) % 4)) * 2) 0) (([zi10, zi11, zi12, zi11, zi12, zi13, zi10, zi13]).getD (((((i) + 1) % 4)) * 2 + 1) 0)), .int .i64 (so2 (([zi10, zi11, zi12, zi11, zi12, zi13, zi10, zi13]).getD (i * 2) 0) (([zi10, zi11, zi12, zi11, zi12, zi13, zi10, zi13]).getD (i * 2 + 1) 0) (([zi10, zi11, zi12, zi11, zi12, zi13, zi10, zi13]).getD (((((i) + 1) % 4)) * 2) 0) (([zi10, zi11, zi12, zi11, zi12, zi13, zi10, zi13]).getD (((((i) + 1) % 4)) * 2 + 1) 0)), .int .i64 (so3 (([zi10, zi11, zi12, zi11, zi12, zi13, zi10, zi13]).getD (i * 2) 0) (([zi10, zi11, zi12, zi11, zi12, zi13, zi10, zi13]).getD (i * 2 + 1) 0) (([zi10, zi11, zi12, zi11, zi12, zi13, zi10, zi13]).getD (((((i) + 1) % 4)) * 2) 0) (([zi10, zi11, zi12, zi11, zi12, zi13, zi10, zi13]).getD (((((i) + 1) % 4)) * 2 + 1) 0))], .bool (decide (soS (([zi10, zi11, zi12, zi11, zi12, zi13, zi10, zi13]).getD (i * 2) 0) (([zi10, zi11, zi12, zi11, zi12, zi13, zi10, zi13]).getD (i * 2 + 1) 0) (([zi10, zi11, zi12, zi11, zi12, zi13, zi10, zi13]).getD (((((i) + 1) % 4)) * 2) 0) (([zi10, zi11, zi12, zi11, zi12, zi13, zi10, zi13]).getD (((((i) + 1) % 4)) * 2 + 1) 0)))]) (T rfl hv222) rfl) ⟨Below.refl _ _, rfl⟩
                     · refine .inr ⟨by kernel_rfl, ?_⟩
                       intro fr224 w223 e225 hF226 hD227
                       have E228 := below_ext E121 E121.size e225
                       have hv229 : fr224 107 = .tuple #[.agg #[.int .i64 (so0 (([zi10, zi11, zi12, zi11, zi12, zi13, zi10, zi13]).getD (i * 2) 0) (([zi10, zi11, zi12, zi11, zi12, zi13, zi10, zi13]).getD (i * 2 + 1) 0) (([zi10, zi11, zi12, zi11, zi12, zi13, zi10, zi13]).getD (((((i) + 1) % 4)) * 2) 0) (([zi10, zi11, zi12, zi11, zi12, zi13, zi10, zi13]).getD (((((i) + 1) % 4)) * 2 + 1) 0)), .int .i64 (so1 (([zi10, zi11, zi12, zi11, zi12, zi13, zi10, zi13]).getD (i * 2) 0) (([zi10, zi11, zi12, zi11, zi12, zi13, zi10, zi13]).getD (i * 2 + 1) 0) (([zi10, zi11, zi12, zi11, zi12, zi13, zi10, zi13]).getD (((((i) + 1) % 4)) * 2) 0) (([zi10, zi11, zi12, zi11, zi12, zi13, zi10, zi13]).getD (((((i) + 1) % 4)) * 2 + 1) 0)), .int .i64 (so2 (([zi10, zi11, zi12, zi11, zi12, zi13, zi10, zi13]).getD (i * 2) 0) (([zi10, zi11, zi12, zi11, zi12, zi13, zi10, zi13]).getD (i * 2 + 1) 0) (([zi10, zi11, zi12, zi11, zi12, zi13, zi10, zi13]).getD (((((i) + 1) % 4)) * 2) 0) (([zi10, zi11, zi12, zi11, zi12, zi13, zi10, zi13]).getD (((((i) + 1) % 4)) * 2 + 1) 0)), .int .i64 (so3 (([zi10, zi11, zi12, zi11, zi12, zi13, zi10, zi13]).getD (i * 2) 0) (([zi10, zi11, zi12, zi11, zi12, zi13, zi10, zi13]).getD (i * 2 + 1) 0) (([zi10, zi11, zi12, zi11, zi12, zi13, zi10, zi13]).getD (((((i) + 1) % 4)) * 2) 0) (([zi10, zi11, zi12, zi11, zi12, zi13, zi10, zi13]).getD (((((i) + 1) % 4)) * 2 + 1) 0))], .bool (decide (soS (([zi10, zi11, zi12, zi11, zi12, zi13, zi10, zi13]).getD (i * 2) 0) (([zi10, zi11, zi12, zi11, zi12, zi13, zi10, zi13]).getD (i * 2 + 1) 0) (([zi10, zi11, zi12, zi11, zi12, zi13, zi10, zi13]).getD (((((i) + 1) % 4)) * 2) 0) (([zi10, zi11, zi12, zi11, zi12, zi13, zi10, zi13]).getD (((((i) + 1) % 4)) * 2 + 1) 0)))] := hD227 11 _ (by kernel_rfl) rfl (by kernel_rfl)
                       exact DV.oe (dv_extract (vs := #[.agg #[.int .i64 (so0 (([zi10, zi11, zi12, zi11, zi12, zi13, zi10, zi13]).getD (i * 2) 0) (([zi10, zi11, zi12, zi11, zi12, zi13, zi10, zi13]).getD (i * 2 + 1) 0) (([zi10, zi11, zi12, zi11, zi12, zi13, zi10, zi13]).getD (((((i) + 1) % 4)) * 2) 0) (([zi10, zi11, zi12, zi11, zi12, zi13, zi10, zi13]).getD (((((i) + 1) % 4)) * 2 + 1) 0)), .int .i64 (so1 (([zi10, zi11, zi12, zi11, zi12, zi13, zi10, zi13]).getD (i * 2) 0) (([zi10, zi11, zi12, zi11, zi12, zi13, zi10, zi13]).getD (i * 2 + 1) 0) (([zi10, zi11, zi12, zi11, zi12, zi13, zi10, zi13]).getD (((((i) + 1) % 4)) * 2) 0) (([zi10, zi11, zi12, zi11, zi12, zi13, zi10, zi13]).getD (((((i) + 1) % 4)) * 2 + 1) 0)), .int .i64 (so2 (([zi10, zi11, zi12, zi11, zi12, zi13, zi10, zi13]).getD (i * 2) 0) (([zi10, zi11, zi12, zi11, zi12, zi13, zi10, zi13]).getD (i * 2 + 1) 0) (([zi10, zi11, zi12, zi11, zi12, zi13, zi10, zi13]).getD (((((i) + 1) % 4)) * 2) 0) (([zi10, zi11, zi12, zi11, zi12, zi13, zi10, zi13]).getD (((((i) + 1) % 4)) * 2 + 1) 0)), .int .i64 (so3 (([zi10, zi11, zi12, zi11, zi12, zi13, zi10, zi13]).getD (i * 2) 0) (([zi10, zi11, zi12, zi11, zi12, zi13, zi10, zi13]).getD (i * 2 + 1) 0) (([zi10, zi11, zi12, zi11, zi12, zi13, zi10, zi13]).getD (((((i) + 1) % 4)) * 2) 0) (([zi10, zi11, zi12, zi11, zi12, zi13, zi10, zi13]).getD (((((i) + 1) % 4)) * 2 + 1) 0))], .bool (decide (soS (([zi10, zi11, zi12, zi11, zi12, zi13, zi10, zi13]).getD (i * 2) 0) (([zi10, zi11, zi12, zi11, zi12, zi13, zi10, zi13]).getD (i * 2 + 1) 0) (([zi10, zi11, zi12, zi11, zi12, zi13, zi10, zi13]).getD (((((i) + 1) % 4)) * 2) 0) (([zi10, zi11, zi12, zi11, zi12, zi13, zi10, zi13]).getD (((((i) + 1) % 4)) * 2 + 1) 0)))]) (T rfl hv229) rfl) ⟨Below.refl _ _, rfl⟩
                     · exact .inl (.inr ⟨by kernel_rfl, fun _ _ => trivial⟩)
                     · exact .inl (.inl (by kernel_rfl))
                     · refine .inr ⟨by kernel_rfl, ?_⟩
                       intro fr245 w244 e246 hF247 hD248
                       have E249 := below_ext E121 E121.size e246
                       have hv250 : fr245 120 = .bool (decide (soS (([zi10, zi11, zi12, zi11, zi12, zi13, zi10, zi13]).getD (i * 2) 0) (([zi10, zi11, zi12, zi11, zi12, zi13, zi10, zi13]).getD (i * 2 + 1) 0) (([zi10, zi11, zi12, zi11, zi12, zi13, zi10, zi13]).getD (((((i) + 1) % 4)) * 2) 0) (([zi10, zi11, zi12, zi11, zi12, zi13, zi10, zi13]).getD (((((i) + 1) % 4)) * 2 + 1) 0))) := hD248 13 _ (by kernel_rfl) rfl (by kernel_rfl)
                       exact DV.oe (dv_assign (T rfl hv250)) ⟨Below.refl _ _, rfl⟩
                   · refine ⟨⟨⟨_, rfl, fun _ _ => oe_alloc ze27 fun b w hn => ⟨b, rfl, hn⟩⟩, ⟨_, rfl, ?_⟩⟩, trivial⟩
                     · intro fr231 w230 b235 e232 hF233 hD234 hA236 hB237
                       have E238 := below_ext E121 E121.size e232
                       have hv239 : fr231 119 = .agg #[.int .i64 (so0 (([zi10, zi11, zi12, zi11, zi12, zi13, zi10, zi13]).getD (i * 2) 0) (([zi10, zi11, zi12, zi11, zi12, zi13, zi10, zi13]).getD (i * 2 + 1) 0) (([zi10, zi11, zi12, zi11, zi12, zi13, zi10, zi13]).getD (((((i) + 1) % 4)) * 2) 0) (([zi10, zi11, zi12, zi11, zi12, zi13, zi10, zi13]).getD (((((i) + 1) % 4)) * 2 + 1) 0)), .int .i64 (so1 (([zi10, zi11, zi12, zi11, zi12, zi13, zi10, zi13]).getD (i * 2) 0) (([zi10, zi11, zi12, zi11, zi12, zi13, zi10, zi13]).getD (i * 2 + 1) 0) (([zi10, zi11, zi12, zi11, zi12, zi13, zi10, zi13]).getD (((((i) + 1) % 4)) * 2) 0) (([zi10, zi11, zi12, zi11, zi12, zi13, zi10, zi13]).getD (((((i) + 1) % 4)) * 2 + 1) 0)), .int .i64 (so2 (([zi10, zi11, zi12, zi11, zi12, zi13, zi10, zi13]).getD (i * 2) 0) (([zi10, zi11, zi12, zi11, zi12, zi13, zi10, zi13]).getD (i * 2 + 1) 0) (([zi10, zi11, zi12, zi11, zi12, zi13, zi10, zi13]).getD (((((i) + 1) % 4)) * 2) 0) (([zi10, zi11, zi12, zi11, zi12, zi13, zi10, zi13]).getD (((((i) + 1) % 4)) * 2 + 1) 0)), .int .i64 (so3 (([zi10, zi11, zi12, zi11, zi12, zi13, zi10, zi13]).getD (i * 2) 0) (([zi10, zi11, zi12, zi11, zi12, zi13, zi10, zi13]).getD (i * 2 + 1) 0) (([zi10, zi11, zi12, zi11, zi12, zi13, zi10, zi13]).getD (((((i) + 1) % 4)) * 2) 0) (([zi10, zi11, zi12, zi11, zi12, zi13, zi10, zi13]).getD (((((i) + 1) % 4)) * 2 + 1) 0))] := hD234 12 _ (by kernel_rfl) rfl (by kernel_rfl)
                       refine id (oe_store (v := .agg #[.int .i64 (so0 (([zi10, zi11, zi12, zi11, zi12, zi13, zi10, zi13]).getD (i * 2) 0) (([zi10, zi11, zi12, zi11, zi12, zi13, zi10, zi13]).getD (i * 2 + 1) 0) (([zi10, zi11, zi12, zi11, zi12, zi13, zi10, zi13]).getD (((((i) + 1) % 4)) * 2) 0) (([zi10, zi11, zi12, zi11, zi12, zi13, zi10, zi13]).getD (((((i) + 1) % 4)) * 2 + 1) 0)), .int .i64 (so1 (([zi10, zi11, zi12, zi11, zi12, zi13, zi10, zi13]).getD (i * 2) 0) (([zi10, zi11, zi12, zi11, zi12, zi13, zi10, zi13]).getD (i * 2 + 1) 0) (([zi10, zi11, zi12, zi11, zi12, zi13, zi10, zi13]).getD (((((i) + 1) % 4)) * 2) 0) (([zi10, zi11, zi12, zi11, zi12, zi13, zi10, zi13]).getD (((((i) + 1) % 4)) * 2 + 1) 0)), .int .i64 (so2 (([zi10, zi11, zi12, zi11, zi12, zi13, zi10, zi13]).getD (i * 2) 0) (([zi10, zi11, zi12, zi11, zi12, zi13, zi10, zi13]).getD (i * 2 + 1) 0) (([zi10, zi11, zi12, zi11, zi12, zi13, zi10, zi13]).getD (((((i) + 1) % 4)) * 2) 0) (([zi10, zi11, zi12, zi11, zi12, zi13, zi10, zi13]).getD (((((i) + 1) % 4)) * 2 + 1) 0)), .int .i64 (so3 (([zi10, zi11, zi12, zi11, zi12, zi13, zi10, zi13]).getD (i * 2) 0) (([zi10, zi11, zi12, zi11, zi12, zi13, zi10, zi13]).getD (i * 2 + 1) 0) (([zi10, zi11, zi12, zi11, zi12, zi13, zi10, zi13]).getD (((((i) + 1) % 4)) * 2) 0) (([zi10, zi11, zi12, zi11, zi12, zi13, zi10, zi13]).getD (((((i) + 1) % 4)) * 2 + 1) 0))]) (vs := [.int .i64 (so0 (([zi10, zi11, zi12, zi11, zi12, zi13, zi10, zi13]).getD (i * 2) 0) (([zi10, zi11, zi12, zi11, zi12, zi13, zi10, zi13]).getD (i * 2 + 1) 0) (([zi10, zi11, zi12, zi11, zi12, zi13, zi10, zi13]).getD (((((i) + 1) % 4)) * 2) 0) (([zi10, zi11, zi12, zi11, zi12, zi13, zi10, zi13]).getD (((((i) + 1) % 4)) * 2 + 1) 0)), .int .i64 (so1 (([zi10, zi11, zi12, zi11, zi12, zi13, zi10, zi13]).getD (i * 2) 0) (([zi10, zi11, zi12, zi11, zi12, zi13, zi10, zi13]).getD (i * 2 + 1) 0) (([zi10, zi11, zi12, zi11, zi12, zi13, zi10, zi13]).getD (((((i) + 1) % 4)) * 2) 0) (([zi10, zi11, zi12, zi11, zi12, zi13, zi10, zi13]).getD (((((i) + 1) % 4)) * 2 + 1) 0)), .int .i64 (so2 (([zi10, zi11, zi12, zi11, zi12, zi13, zi10, zi13]).getD (i * 2) 0) (([zi10, zi11, zi12, zi11, zi12, zi13, zi10, zi13]).getD (i * 2 + 1) 0) (([zi10, zi11, zi12, zi11, zi12, zi13, zi10, zi13]).getD (((((i) + 1) % 4)) * 2) 0) (([zi10, zi11, zi12, zi11, zi12, zi13, zi10, zi13]).getD (((((i) + 1) % 4)) * 2 + 1) 0)), .int .i64 (so3 (([zi10, zi11, zi12, zi11, zi12, zi13, zi10, zi13]).getD (i * 2) 0) (([zi10, zi11, zi12, zi11, zi12, zi13, zi10, zi13]).getD (i * 2 + 1) 0) (([zi10, zi11, zi12, zi11, zi12, zi13, zi10, zi13]).getD (((((i) + 1) % 4)) * 2) 0) (([zi10, zi11, zi12, zi11, zi12, zi13, zi10, zi13]).getD (((((i) + 1) % 4)) * 2 + 1) 0))]) (l := [.int .i64 (so0 (([zi10, zi11, zi12, zi11, zi12, zi13, zi10, zi13]).getD (i * 2) 0) (([zi10, zi11, zi12, zi11, zi12, zi13, zi10, zi13]).getD (i * 2 + 1) 0) (([zi10, zi11, zi12, zi11, zi12, zi13, zi10, zi13]).getD (((((i) + 1) % 4)) * 2) 0) (([zi10, zi11, zi12, zi11, zi12, zi13, zi10, zi13]).getD (((((i) + 1) % 4)) * 2 + 1) 0)), .int .i64 (so1 (([zi10, zi11, zi12, zi11, zi12, zi13, zi10, zi13]).getD (i * 2) 0) (([zi10, zi11, zi12, zi11, zi12, zi13, zi10, zi13]).getD (i * 2 + 1) 0) (([zi10, zi11, zi12, zi11, zi12, zi13, zi10, zi13]).getD (((((i) + 1) % 4)) * 2) 0) (([zi10, zi11, zi12, zi11, zi12, zi13, zi10, zi13]).getD (((((i) + 1) % 4)) * 2 + 1) 0)), .int .i64 (so2 (([zi10, zi11, zi12, zi11, zi12, zi13, zi10, zi13]).getD (i * 2) 0) (([zi10, zi11, zi12, zi11, zi12, zi13, zi10, zi13]).getD (i * 2 + 1) 0) (([zi10, zi11, zi12, zi11, zi12, zi13, zi10, zi13]).getD (((((i) + 1) % 4)) * 2) 0) (([zi10, zi11, zi12, zi11, zi12, zi13, zi10, zi13]).getD (((((i) + 1) % 4)) * 2 + 1) 0)), .int .i64 (so3 (([zi10, zi11, zi12, zi11, zi12, zi13, zi10, zi13]).getD (i * 2) 0) (([zi10, zi11, zi12, zi11, zi12, zi13, zi10, zi13]).getD (i * 2 + 1) 0) (([zi10, zi11, zi12, zi11, zi12, zi13, zi10, zi13]).getD (((((i) + 1) % 4)) * 2) 0) (([zi10, zi11, zi12, zi11, zi12, zi13, zi10, zi13]).getD (((((i) + 1) % 4)) * 2 + 1) 0))]) (T rfl hA236) (T rfl hv239) sz27 rfl rfl rfl hB237 rfl ?_)
                       intro w240 s241 H242
                       exact ⟨s241, H242.trans (congrArg (fun v : Value => some (Obj.cells v.cells 27)) (show fr231 119 = _ from hv239).symm)⟩
                   intro fr252 w251 e253 hF254 hP255 hM256 hN257
                   have E258 := below_ext E121 E121.size e253
                   obtain ⟨p259, p260, p261, p262, p263, p264, p265, p266, p267, p268, p269, p270, p271, p272, _, _, p273, _⟩ := hP255
                   have hv274 : fr252 108 = .slice (some ⟨b100, 0, none⟩) 4 4 := p259.resolve_left (nst (by kernel_rfl))
                   have hv275 : fr252 109 = .int .i64 ((i : Int)) := p260.resolve_left (nst (by kernel_rfl))
                   have hv276 : fr252 110 = .pointer (some ⟨b100, (i * 2), none⟩) := p261.resolve_left (nst (by kernel_rfl))
                   have hv277 : fr252 111 = .agg #[.int .i64 (([zi10, zi11, zi12, zi11, zi12, zi13, zi10, zi13]).getD (i * 2) 0), .int .i64 (([zi10, zi11, zi12, zi11, zi12, zi13, zi10, zi13]).getD (i * 2 + 1) 0)] := p262.resolve_left (nst (by kernel_rfl))
                   have hv278 : fr252 112 = .slice (some ⟨b100, 0, none⟩) 4 4 := p263.resolve_left (nst (by kernel_rfl))
                   have hv279 : fr252 113 = .int .i64 ((i : Int)) := p264.resolve_left (nst (by kernel_rfl))
                   have hv280 : fr252 114 = .int .i64 (((i : Int)) + 1) := p265.resolve_left (nst (by kernel_rfl))
                   have hv281 : fr252 115 = .int .i64 ((((i : Int)) + 1) % 4) := p266.resolve_left (nst (by kernel_rfl))
                   have hv282 : fr252 116 = .pointer (some ⟨b100, (((((i) + 1) % 4)) * 2), none⟩) := p267.resolve_left (nst (by kernel_rfl))
                   have hv283 : fr252 117 = .agg #[.int .i64 (([zi10, zi11, zi12, zi11, zi12, zi13, zi10, zi13]).getD (((((i) + 1) % 4)) * 2) 0), .int .i64 (([zi10, zi11, zi12, zi11, zi12, zi13, zi10, zi13]).getD (((((i) + 1) % 4)) * 2 + 1) 0)] := p268.resolve_left (nst (by kernel_rfl))
                   have hv284 : fr252 118 = .tuple #[.agg #[.int .i64 (so0 (([zi10, zi11, zi12, zi11, zi12, zi13, zi10, zi13]).getD (i * 2) 0) (([zi10, zi11, zi12, zi11, zi12, zi13, zi10, zi13]).getD (i * 2 + 1) 0) (([zi10, zi11, zi12, zi11, zi12, zi13, zi10, zi13]).getD (((((i) + 1) % 4)) * 2) 0) (([zi10, zi11, zi12, zi11, zi12, zi13, zi10, zi13]).getD (((((i) + 1) % 4)) * 2 + 1) 0)), .int .i64 (so1 (([zi10, zi11, zi12, zi11, zi12, zi13, zi10, zi13]).getD (i * 2) 0) (([zi10, zi11, zi12, zi11, zi12, zi13, zi10, zi13]).getD (i * 2 + 1) 0) (([zi10, zi11, zi12, zi11, zi12, zi13, zi10, zi13]).getD (((((i) + 1) % 4)) * 2) 0) (([zi10, zi11, zi12, zi11, zi12, zi13, zi10, zi13]).getD (((((i) + 1) % 4)) * 2 + 1) 0)), .int .i64 (so2 (([zi10, zi11, zi12, zi11, zi12, zi13, zi10, zi13]).getD (i * 2) 0) (([zi10, zi11, zi12, zi11, zi12, zi13, zi10, zi13]).getD (i * 2 + 1) 0) (([zi10, zi11, zi12, zi11, zi12, zi13, zi10, zi13]).getD (((((i) + 1) % 4)) * 2) 0) (([zi10, zi11, zi12, zi11, zi12, zi13, zi10, zi13]).getD (((((i) + 1) % 4)) * 2 + 1) 0)), .int .i64 (so3 (([zi10, zi11, zi12, zi11, zi12, zi13, zi10, zi13]).getD (i * 2) 0) (([zi10, zi11, zi12, zi11, zi12, zi13, zi10, zi13]).getD (i * 2 + 1) 0) (([zi10, zi11, zi12, zi11, zi12, zi13, zi10, zi13]).getD (((((i) + 1) % 4)) * 2) 0) (([zi10, zi11, zi12, zi11, zi12, zi13, zi10, zi13]).getD (((((i) + 1) % 4)) * 2 + 1) 0))], .bool (decide (soS (([zi10, zi11, zi12, zi11, zi12, zi13, zi10, zi13]).getD (i * 2) 0) (([zi10, zi11, zi12, zi11, zi12, zi13, zi10, zi13]).getD (i * 2 + 1) 0) (([zi10, zi11, zi12, zi11, zi12, zi13, zi10, zi13]).getD (((((i) + 1) % 4)) * 2) 0) (([zi10, zi11, zi12, zi11, zi12, zi13, zi10, zi13]).getD (((((i) + 1) % 4)) * 2 + 1) 0)))] := p269.resolve_left (nst (by kernel_rfl))
                   have hv285 : fr252 107 = .tuple #[.agg #[.int .i64 (so0 (([zi10, zi11, zi12, zi11, zi12, zi13, zi10, zi13]).getD (i * 2) 0) (([zi10, zi11, zi12, zi11, zi12, zi13, zi10, zi13]).getD (i * 2 + 1) 0) (([zi10, zi11, zi12, zi11, zi12, zi13, zi10, zi13]).getD (((((i) + 1) % 4)) * 2) 0) (([zi10, zi11, zi12, zi11, zi12, zi13, zi10, zi13]).getD (((((i) + 1) % 4)) * 2 + 1) 0)), .int .i64 (so1 (([zi10, zi11, zi12, zi11, zi12, zi13, zi10, zi13]).getD (i * 2) 0) (([zi10, zi11, zi12, zi11, zi12, zi13, zi10, zi13]).getD (i * 2 + 1) 0) (([zi10, zi11, zi12, zi11, zi12, zi13, zi10, zi13]).getD (((((i) + 1) % 4)) * 2) 0) (([zi10, zi11, zi12, zi11, zi12, zi13, zi10, zi13]).getD (((((i) + 1) % 4)) * 2 + 1) 0)), .int .i64 (so2 (([zi10, zi11, zi12, zi11, zi12, zi13, zi10, zi13]).getD (i * 2) 0) (([zi10, zi11, zi12, zi11, zi12, zi13, zi10, zi13]).getD (i * 2 + 1) 0) (([zi10, zi11, zi12, zi11, zi12, zi13, zi10, zi13]).getD (((((i) + 1) % 4)) * 2) 0) (([zi10, zi11, zi12, zi11, zi12, zi13, zi10, zi13]).getD (((((i) + 1) % 4)) * 2 + 1) 0)), .int .i64 (so3 (([zi10, zi11, zi12, zi11, zi12, zi13, zi10, zi13]).getD (i * 2) 0) (([zi10, zi11, zi12, zi11, zi12, zi13, zi10, zi13]).getD (i * 2 + 1) 0) (([zi10, zi11, zi12, zi11, zi12, zi13, zi10, zi13]).getD (((((i) + 1) % 4)) * 2) 0) (([zi10, zi11, zi12, zi11, zi12, zi13, zi10, zi13]).getD (((((i) + 1) % 4)) * 2 + 1) 0))], .bool (decide (soS (([zi10, zi11, zi12, zi11, zi12, zi13, zi10, zi13]).getD (i * 2) 0) (([zi10, zi11, zi12, zi11, zi12, zi13, zi10, zi13]).getD (i * 2 + 1) 0) (([zi10, zi11, zi12, zi11, zi12, zi13, zi10, zi13]).getD (((((i) + 1) % 4)) * 2) 0) (([zi10, zi11, zi12, zi11, zi12, zi13, zi10, zi13]).getD (((((i) + 1) % 4)) * 2 + 1) 0)))] := p270.resolve_left (nst (by kernel_rfl))
                   have hv286 : fr252 119 = .agg #[.int .i64 (so0 (([zi10, zi11, zi12, zi11, zi12, zi13, zi10, zi13]).getD (i * 2) 0) (([zi10, zi11, zi12, zi11, zi12, zi13, zi10, zi13]).getD (i * 2 + 1) 0) (([zi10, zi11, zi12, zi11, zi12, zi13, zi10, zi13]).getD (((((i) + 1) % 4)) * 2) 0) (([zi10, zi11, zi12, zi11, zi12, zi13, zi10, zi13]).getD (((((i) + 1) % 4)) * 2 + 1) 0)), .int .i64 (so1 (([zi10, zi11, zi12, zi11, zi12, zi13, zi10, zi13]).getD (i * 2) 0) (([zi10, zi11, zi12, zi11, zi12, zi13, zi10, zi13]).getD (i * 2 + 1) 0) (([zi10, zi11, zi12, zi11, zi12, zi13, zi10, zi13]).getD (((((i) + 1) % 4)) * 2) 0) (([zi10, zi11, zi12, zi11, zi12, zi13, zi10, zi13]).getD (((((i) + 1) % 4)) * 2 + 1) 0)), .int .i64 (so2 (([zi10, zi11, zi12, zi11, zi12, zi13, zi10, zi13]).getD (i * 2) 0) (([zi10, zi11, zi12, zi11, zi12, zi13, zi10, zi13]).getD (i * 2 + 1) 0) (([zi10, zi11, zi12, zi11, zi12, zi13, zi10, zi13]).getD (((((i) + 1) % 4)) * 2) 0) (([zi10, zi11, zi12, zi11, zi12, zi13, zi10, zi13]).getD (((((i) + 1) % 4)) * 2 + 1) 0)), .int .i64 (so3 (([zi10, zi11, zi12, zi11, zi12, zi13, zi10, zi13]).getD (i * 2) 0) (([zi10, zi11, zi12, zi11, zi12, zi13, zi10, zi13]).getD (i * 2 + 1) 0) (([zi10, zi11, zi12, zi11, zi12, zi13, zi10, zi13]).getD (((((i) + 1) % 4)) * 2) 0) (([zi10, zi11, zi12, zi11, zi12, zi13, zi10, zi13]).getD (((((i) + 1) % 4)) * 2 + 1) 0))] := p271.resolve_left (nst (by kernel_rfl))
                   have hv287 : fr252 120 = .bool (decide (soS (([zi10, zi11, zi12, zi11, zi12, zi13, zi10, zi13]).getD (i * 2) 0) (([zi10, zi11, zi12, zi11, zi12, zi13, zi10, zi13]).getD (i * 2 + 1) 0) (([zi10, zi11, zi12, zi11, zi12, zi13, zi10, zi13]).getD (((((i) + 1) % 4)) * 2) 0) (([zi10, zi11, zi12, zi11, zi12, zi13, zi10, zi13]).getD (((((i) + 1) % 4)) * 2 + 1) 0))) := p272.resolve_left (nst (by kernel_rfl))
                   have hv288 : fr252 11 = .bool (decide (soS (([zi10, zi11, zi12, zi11, zi12, zi13, zi10, zi13]).getD (i * 2) 0) (([zi10, zi11, zi12, zi11, zi12, zi13, zi10, zi13]).getD (i * 2 + 1) 0) (([zi10, zi11, zi12, zi11, zi12, zi13, zi10, zi13]).getD (((((i) + 1) % 4)) * 2) 0) (([zi10, zi11, zi12, zi11, zi12, zi13, zi10, zi13]).getD (((((i) + 1) % 4)) * 2 + 1) 0))) := p273.resolve_left (nst (by kernel_rfl))
                   obtain ⟨⟨b289, hA290, hB291, hC292⟩, _⟩ := hM256
                   have H293 : w251.heap[b289]? = some (.cells #[.int .i64 (so0 (([zi10, zi11, zi12, zi11, zi12, zi13, zi10, zi13]).getD (i * 2) 0) (([zi10, zi11, zi12, zi11, zi12, zi13, zi10, zi13]).getD (i * 2 + 1) 0) (([zi10, zi11, zi12, zi11, zi12, zi13, zi10, zi13]).getD (((((i) + 1) % 4)) * 2) 0) (([zi10, zi11, zi12, zi11, zi12, zi13, zi10, zi13]).getD (((((i) + 1) % 4)) * 2 + 1) 0)), .int .i64 (so1 (([zi10, zi11, zi12, zi11, zi12, zi13, zi10, zi13]).getD (i * 2) 0) (([zi10, zi11, zi12, zi11, zi12, zi13, zi10, zi13]).getD (i * 2 + 1) 0) (([zi10, zi11, zi12, zi11, zi12, zi13, zi10, zi13]).getD (((((i) + 1) % 4)) * 2) 0) (([zi10, zi11, zi12, zi11, zi12, zi13, zi10, zi13]).getD (((((i) + 1) % 4)) * 2 + 1) 0)), .int .i64 (so2 (([zi10, zi11, zi12, zi11, zi12, zi13, zi10, zi13]).getD (i * 2) 0) (([zi10, zi11, zi12, zi11, zi12, zi13, zi10, zi13]).getD (i * 2 + 1) 0) (([zi10, zi11, zi12, zi11, zi12, zi13, zi10, zi13]).getD (((((i) + 1) % 4)) * 2) 0) (([zi10, zi11, zi12, zi11, zi12, zi13, zi10, zi13]).getD (((((i) + 1) % 4)) * 2 + 1) 0)), .int .i64 (so3 (([zi10, zi11, zi12, zi11, zi12, zi13, zi10, zi13]).getD (i * 2) 0) (([zi10, zi11, zi12, zi11, zi12, zi13, zi10, zi13]).getD (i * 2 + 1) 0) (([zi10, zi11, zi12, zi11, zi12, zi13, zi10, zi13]).getD (((((i) + 1) % 4)) * 2) 0) (([zi10, zi11, zi12, zi11, zi12, zi13, zi10, zi13]).getD (((((i) + 1) % 4)) * 2 + 1) 0))] 27) := hC292.trans (congrArg (fun v : Value => some (Obj.cells v.cells 27)) hv286)
                   have N294 : w.heap.size ≤ b289 := by omega
                   refine rk_seq ?_
                   refine rk_reg ?_
                   have H295 := (e253.blk H122)
                   refine lw_v (.agg #[.int .i64 zi6, .int .i64 zi7, .int .i64 zi8, .int .i64 zi9]) (dv_loads (l := [.int .i64 zi6, .int .i64 zi7, .int .i64 zi8, .int .i64 zi9]) agt27 sz27 (T rfl ((hF254 3 rfl).trans f114)) H295 rfl) ?_
                   refine lw_v (.agg #[.int .i64 (so0 (([zi10, zi11, zi12, zi11, zi12, zi13, zi10, zi13]).getD (i * 2) 0) (([zi10, zi11, zi12, zi11, zi12, zi13, zi10, zi13]).getD (i * 2 + 1) 0) (([zi10, zi11, zi12, zi11, zi12, zi13, zi10, zi13]).getD (((((i) + 1) % 4)) * 2) 0) (([zi10, zi11, zi12, zi11, zi12, zi13, zi10, zi13]).getD (((((i) + 1) % 4)) * 2 + 1) 0)), .int .i64 (so1 (([zi10, zi11, zi12, zi11, zi12, zi13, zi10, zi13]).getD (i * 2) 0) (([zi10, zi11, zi12, zi11, zi12, zi13, zi10, zi13]).getD (i * 2 + 1) 0) (([zi10, zi11, zi12, zi11, zi12, zi13, zi10, zi13]).getD (((((i) + 1) % 4)) * 2) 0) (([zi10, zi11, zi12, zi11, zi12, zi13, zi10, zi13]).getD (((((i) + 1) % 4)) * 2 + 1) 0)), .int .i64 (so2 (([zi10, zi11, zi12, zi11, zi12, zi13, zi10, zi13]).getD (i * 2) 0) (([zi10, zi11, zi12, zi11, zi12, zi13, zi10, zi13]).getD (i * 2 + 1) 0) (([zi10, zi11, zi12, zi11, zi12, zi13, zi10, zi13]).getD (((((i) + 1) % 4)) * 2) 0) (([zi10, zi11, zi12, zi11, zi12, zi13, zi10, zi13]).getD (((((i) + 1) % 4)) * 2 + 1) 0)), .int .i64 (so3 (([zi10, zi11, zi12, zi11, zi12, zi13, zi10, zi13]).getD (i * 2) 0) (([zi10, zi11, zi12, zi11, zi12, zi13, zi10, zi13]).getD (i * 2 + 1) 0) (([zi10, zi11, zi12, zi11, zi12, zi13, zi10, zi13]).getD (((((i) + 1) % 4)) * 2) 0) (([zi10, zi11, zi12, zi11, zi12, zi13, zi10, zi13]).getD (((((i) + 1) % 4)) * 2 + 1) 0))]) (dv_loads (l := [.int .i64 (so0 (([zi10, zi11, zi12, zi11, zi12, zi13, zi10, zi13]).getD (i * 2) 0) (([zi10, zi11, zi12, zi11, zi12, zi13, zi10, zi13]).getD (i * 2 + 1) 0) (([zi10, zi11, zi12, zi11, zi12, zi13, zi10, zi13]).getD (((((i) + 1) % 4)) * 2) 0) (([zi10, zi11, zi12, zi11, zi12, zi13, zi10, zi13]).getD (((((i) + 1) % 4)) * 2 + 1) 0)), .int .i64 (so1 (([zi10, zi11, zi12, zi11, zi12, zi13, zi10, zi13]).getD (i * 2) 0) (([zi10, zi11, zi12, zi11, zi12, zi13, zi10, zi13]).getD (i * 2 + 1) 0) (([zi10, zi11, zi12, zi11, zi12, zi13, zi10, zi13]).getD (((((i) + 1) % 4)) * 2) 0) (([zi10, zi11, zi12, zi11, zi12, zi13, zi10, zi13]).getD (((((i) + 1) % 4)) * 2 + 1) 0)), .int .i64 (so2 (([zi10, zi11, zi12, zi11, zi12, zi13, zi10, zi13]).getD (i * 2) 0) (([zi10, zi11, zi12, zi11, zi12, zi13, zi10, zi13]).getD (i * 2 + 1) 0) (([zi10, zi11, zi12, zi11, zi12, zi13, zi10, zi13]).getD (((((i) + 1) % 4)) * 2) 0) (([zi10, zi11, zi12, zi11, zi12, zi13, zi10, zi13]).getD (((((i) + 1) % 4)) * 2 + 1) 0)), .int .i64 (so3 (([zi10, zi11, zi12, zi11, zi12, zi13, zi10, zi13]).getD (i * 2) 0) (([zi10, zi11, zi12, zi11, zi12, zi13, zi10, zi13]).getD (i * 2 + 1) 0) (([zi10, zi11, zi12, zi11, zi12, zi13, zi10, zi13]).getD (((((i) + 1) % 4)) * 2) 0) (([zi10, zi11, zi12, zi11, zi12, zi13, zi10, zi13]).getD (((((i) + 1) % 4)) * 2 + 1) 0))]) agt27 sz27 (T rfl hA290) H293 rfl) ?_
                   refine lw_e (oe_callf (vs := [.agg #[.int .i64 zi6, .int .i64 zi7, .int .i64 zi8, .int .i64 zi9], .agg #[.int .i64 (so0 (([zi10, zi11, zi12, zi11, zi12, zi13, zi10, zi13]).getD (i * 2) 0) (([zi10, zi11, zi12, zi11, zi12, zi13, zi10, zi13]).getD (i * 2 + 1) 0) (([zi10, zi11, zi12, zi11, zi12, zi13, zi10, zi13]).getD (((((i) + 1) % 4)) * 2) 0) (([zi10, zi11, zi12, zi11, zi12, zi13, zi10, zi13]).getD (((((i) + 1) % 4)) * 2 + 1) 0)), .int .i64 (so1 (([zi10, zi11, zi12, zi11, zi12, zi13, zi10, zi13]).getD (i * 2) 0) (([zi10, zi11, zi12, zi11, zi12, zi13, zi10, zi13]).getD (i * 2 + 1) 0) (([zi10, zi11, zi12, zi11, zi12, zi13, zi10, zi13]).getD (((((i) + 1) % 4)) * 2) 0) (([zi10, zi11, zi12, zi11, zi12, zi13, zi10, zi13]).getD (((((i) + 1) % 4)) * 2 + 1) 0)), .int .i64 (so2 (([zi10, zi11, zi12, zi11, zi12, zi13, zi10, zi13]).getD (i * 2) 0) (([zi10, zi11, zi12, zi11, zi12, zi13, zi10, zi13]).getD (i * 2 + 1) 0) (([zi10, zi11, zi12, zi11, zi12, zi13, zi10, zi13]).getD (((((i) + 1) % 4)) * 2) 0) (([zi10, zi11, zi12, zi11, zi12, zi13, zi10, zi13]).getD (((((i) + 1) % 4)) * 2 + 1) 0)), .int .i64 (so3 (([zi10, zi11, zi12, zi11, zi12, zi13, zi10, zi13]).getD (i * 2) 0) (([zi10, zi11, zi12, zi11, zi12, zi13, zi10, zi13]).getD (i * 2 + 1) 0) (([zi10, zi11, zi12, zi11, zi12, zi13, zi10, zi13]).getD (((((i) + 1) % 4)) * 2) 0) (([zi10, zi11, zi12, zi11, zi12, zi13, zi10, zi13]).getD (((((i) + 1) % 4)) * 2 + 1) 0))]]) co14 (ar2 (T rfl rfl) (T rfl rfl)) (iMeet_ok (ax := zi6) (ay := zi7) (bx := zi8) (b_y := zi9) (cx := so0 (([zi10, zi11, zi12, zi11, zi12, zi13, zi10, zi13]).getD (i * 2) 0) (([zi10, zi11, zi12, zi11, zi12, zi13, zi10, zi13]).getD (i * 2 + 1) 0) (([zi10, zi11, zi12, zi11, zi12, zi13, zi10, zi13]).getD (((((i) + 1) % 4)) * 2) 0) (([zi10, zi11, zi12, zi11, zi12, zi13, zi10, zi13]).getD (((((i) + 1) % 4)) * 2 + 1) 0)) (cy := so1 (([zi10, zi11, zi12, zi11, zi12, zi13, zi10, zi13]).getD (i * 2) 0) (([zi10, zi11, zi12, zi11, zi12, zi13, zi10, zi13]).getD (i * 2 + 1) 0) (([zi10, zi11, zi12, zi11, zi12, zi13, zi10, zi13]).getD (((((i) + 1) % 4)) * 2) 0) (([zi10, zi11, zi12, zi11, zi12, zi13, zi10, zi13]).getD (((((i) + 1) % 4)) * 2 + 1) 0)) (dx := so2 (([zi10, zi11, zi12, zi11, zi12, zi13, zi10, zi13]).getD (i * 2) 0) (([zi10, zi11, zi12, zi11, zi12, zi13, zi10, zi13]).getD (i * 2 + 1) 0) (([zi10, zi11, zi12, zi11, zi12, zi13, zi10, zi13]).getD (((((i) + 1) % 4)) * 2) 0) (([zi10, zi11, zi12, zi11, zi12, zi13, zi10, zi13]).getD (((((i) + 1) % 4)) * 2 + 1) 0)) (dy := so3 (([zi10, zi11, zi12, zi11, zi12, zi13, zi10, zi13]).getD (i * 2) 0) (([zi10, zi11, zi12, zi11, zi12, zi13, zi10, zi13]).getD (i * 2 + 1) 0) (([zi10, zi11, zi12, zi11, zi12, zi13, zi10, zi13]).getD (((((i) + 1) % 4)) * 2) 0) (([zi10, zi11, zi12, zi11, zi12, zi13, zi10, zi13]).getD (((((i) + 1) % 4)) * 2 + 1) 0)) ) ?_)
                   rintro _ w322 ⟨k296, r297, r298, r299, r300, r301, r302, r303, r304, r305, r306, r307, r308, r309, r310, r311, r312, r313, r314, r315, r316, r317, r318, r319, r320, rfl, e323, hk321⟩
                   have E324 := below_ext E258 E258.size e323
                   refine lw_v (.tuple #[.int .i64 k296, .agg #[.int .u64 r297, .int .u64 r298, .int .u64 r299, .int .u64 r300, .int .u64 r301, .int .u64 r302, .int .u64 r303, .int .u64 r304, .int .u64 r305, .int .u64 r306, .int .u64 r307, .int .u64 r308], .agg #[.int .u64 r309, .int .u64 r310, .int .u64 r311, .int .u64 r312, .int .u64 r313, .int .u64 r314, .int .u64 r315, .int .u64 r316, .int .u64 r317, .int .u64 r318, .int .u64 r319, .int .u64 r320]]) (dv_move (T rfl rfl)) ?_
                   refine lw_v (.int .i64 k296) (dv_extract (vs := #[.int .i64 k296, .agg #[.int .u64 r297, .int .u64 r298, .int .u64 r299, .int .u64 r300, .int .u64 r301, .int .u64 r302, .int .u64 r303, .int .u64 r304, .int .u64 r305, .int .u64 r306, .int .u64 r307, .int .u64 r308], .agg #[.int .u64 r309, .int .u64 r310, .int .u64 r311, .int .u64 r312, .int .u64 r313, .int .u64 r314, .int .u64 r315, .int .u64 r316, .int .u64 r317, .int .u64 r318, .int .u64 r319, .int .u64 r320]]) (T rfl rfl) rfl) ?_
                   refine lw_v (.agg #[.int .u64 r297, .int .u64 r298, .int .u64 r299, .int .u64 r300, .int .u64 r301, .int .u64 r302, .int .u64 r303, .int .u64 r304, .int .u64 r305, .int .u64 r306, .int .u64 r307, .int .u64 r308]) (dv_extract (vs := #[.int .i64 k296, .agg #[.int .u64 r297, .int .u64 r298, .int .u64 r299, .int .u64 r300, .int .u64 r301, .int .u64 r302, .int .u64 r303, .int .u64 r304, .int .u64 r305, .int .u64 r306, .int .u64 r307, .int .u64 r308], .agg #[.int .u64 r309, .int .u64 r310, .int .u64 r311, .int .u64 r312, .int .u64 r313, .int .u64 r314, .int .u64 r315, .int .u64 r316, .int .u64 r317, .int .u64 r318, .int .u64 r319, .int .u64 r320]]) (T rfl rfl) rfl) ?_
                   refine lw_v (.agg #[.int .u64 r309, .int .u64 r310, .int .u64 r311, .int .u64 r312, .int .u64 r313, .int .u64 r314, .int .u64 r315, .int .u64 r316, .int .u64 r317, .int .u64 r318, .int .u64 r319, .int .u64 r320]) (dv_extract (vs := #[.int .i64 k296, .agg #[.int .u64 r297, .int .u64 r298, .int .u64 r299, .int .u64 r300, .int .u64 r301, .int .u64 r302, .int .u64 r303, .int .u64 r304, .int .u64 r305, .int .u64 r306, .int .u64 r307, .int .u64 r308], .agg #[.int .u64 r309, .int .u64 r310, .int .u64 r311, .int .u64 r312, .int .u64 r313, .int .u64 r314, .int .u64 r315, .int .u64 r316, .int .u64 r317, .int .u64 r318, .int .u64 r319, .int .u64 r320]]) (T rfl rfl) rfl) ?_
                   refine lw_e (oe_alloc ze40 ?_)
                   intro b325 w326 n327
                   have N328 : w.heap.size ≤ b325 := n327.eq ▸ E324.size
                   have H329 := (e323.blk H295)
                   have : b25 < b325 := n327.eq ▸ lt_of_blk H329
                   have H330 := (e323.blk (e253.blk H123))
                   have : b30 < b325 := n327.eq ▸ lt_of_blk H330
                   have H331 := (e323.blk (e253.blk H124))
                   have : b35 < b325 := n327.eq ▸ lt_of_blk H331
                   have H332 := (e323.blk (e253.blk H125))
                   have : b100 < b325 := n327.eq ▸ lt_of_blk H332
                   have H333 := (e323.blk H293)
                   have : b289 < b325 := n327.eq ▸ lt_of_blk H333
                   have E334 := below_ext E324 E324.size n327.ext
                   refine lw_e (oe_alloc ze40 ?_)
                   intro b335 w336 n337
                   have N338 : w.heap.size ≤ b335 := n337.eq ▸ E334.size
                   have H339 := (n327.ext.blk H329)
                   have : b25 < b335 := n337.eq ▸ lt_of_blk H339
                   have H340 := (n327.ext.blk H330)
                   have : b30 < b335 := n337.eq ▸ lt_of_blk H340
                   have H341 := (n327.ext.blk H331)
                   have : b35 < b335 := n337.eq ▸ lt_of_blk H341
                   have H342 := (n327.ext.blk H332)
                   have : b100 < b335 := n337.eq ▸ lt_of_blk H342
                   have H343 := (n327.ext.blk H333)
                   have : b289 < b335 := n337.eq ▸ lt_of_blk H343
                   have : b325 < b335 := n337.eq ▸ lt_of_blk n327.blk
                   have E344 := below_ext E334 E334.size n337.ext
                   refine lw_v (.int .i64 k296) (dv_assign (T rfl rfl)) ?_
                   have H345 := (n337.ext.blk n327.blk)
                   refine lw_e (oe_store (v := .agg #[.int .u64 r297, .int .u64 r298, .int .u64 r299, .int .u64 r300, .int .u64 r301, .int .u64 r302, .int .u64 r303, .int .u64 r304, .int .u64 r305, .int .u64 r306, .int .u64 r307, .int .u64 r308]) (vs := [.int .u64 r297, .int .u64 r298, .int .u64 r299, .int .u64 r300, .int .u64 r301, .int .u64 r302, .int .u64 r303, .int .u64 r304, .int .u64 r305, .int .u64 r306, .int .u64 r307, .int .u64 r308]) (l := [.int .u64 r297, .int .u64 r298, .int .u64 r299, .int .u64 r300, .int .u64 r301, .int .u64 r302, .int .u64 r303, .int .u64 r304, .int .u64 r305, .int .u64 r306, .int .u64 r307, .int .u64 r308]) (T rfl rfl) (T rfl rfl) sz40 rfl rfl rfl H345 rfl ?_)
                   intro w346 s347 H348
                   have E349 := below_st E344 N328 s347
                   have H350 := (s347.blk n337.blk (by omega))
                   refine lw_e (oe_store (v := .agg #[.int .u64 r309, .int .u64 r310, .int .u64 r311, .int .u64 r312, .int .u64 r313, .int .u64 r314, .int .u64 r315, .int .u64 r316, .int .u64 r317, .int .u64 r318, .int .u64 r319, .int .u64 r320]) (vs := [.int .u64 r309, .int .u64 r310, .int .u64 r311, .int .u64 r312, .int .u64 r313, .int .u64 r314, .int .u64 r315, .int .u64 r316, .int .u64 r317, .int .u64 r318, .int .u64 r319, .int .u64 r320]) (l := [.int .u64 r309, .int .u64 r310, .int .u64 r311, .int .u64 r312, .int .u64 r313, .int .u64 r314, .int .u64 r315, .int .u64 r316, .int .u64 r317, .int .u64 r318, .int .u64 r319, .int .u64 r320]) (T rfl rfl) (T rfl rfl) sz40 rfl rfl rfl H350 rfl ?_)
                   intro w351 s352 H353
                   have E354 := below_st E349 N338 s352
                   refine lw_nil ?_
                   refine rk_reg ?_
                   refine lw_v (.bool qb) (dv_move (T rfl ((hF254 7 rfl).trans f118))) ?_
                   refine lw_v (.bool qb) (dv_move (T rfl rfl)) ?_
                   rcases Bool.eq_false_or_eq_true (qb) with hb355 | hb355
                   · refine lw_no (d := 129) rfl rfl (congrArg Value.bool hb355) ?_
                     refine lw_no (d := 129) rfl rfl (congrArg Value.bool hb355) ?_
                     refine lw_nou (d := 131) rfl rfl ?_
                     refine lw_nou (d := 131) rfl rfl ?_
                     refine lw_no (d := 129) rfl rfl (congrArg Value.bool hb355) ?_
                     refine lw_v (.bool true) (dv_pick_t (T rfl (congrArg Value.bool hb355)) C) ?_
                     refine lw_v (.bool true) (dv_assign (T rfl rfl)) ?_
                     refine lw_nil ?_
                     refine rk_inBlock ?_
                     refine rk_reg ?_
                     refine lw_v (.int .i64 ((i : Int))) (dv_move (T rfl ((hF254 9 rfl).trans f120))) ?_
                     refine lw_v (.int .i64 (((i : Int)) + 1)) (dv_add (a := (i : Int)) (b := 1) (z := ((i : Int)) + 1) (T rfl rfl) C (wr_i64 (by omega) (by omega))) ?_
                     refine lw_v (.int .i64 (((i : Int)) + 1)) (dv_assign (T rfl rfl)) ?_
                     refine lw_nil ?_
                     have hsi := side_i (i := i) (by omega) hb71 hb76 hb81 (by omega) (by omega); unfold coX coY at hsi
                     have H356 := (s352.blk (s347.blk (n337.ext.blk H339) (by omega)) (by omega))
                     have H357 := (s352.blk (s347.blk (n337.ext.blk H340) (by omega)) (by omega))
                     have H358 := (s352.blk (s347.blk (n337.ext.blk H341) (by omega)) (by omega))
                     have H359 := (s352.blk (s347.blk (n337.ext.blk H342) (by omega)) (by omega))
                     exact ih110 (4 - ((i + 1))) _ _ (by rw [hd126]; omega) ⟨(i + 1), true, rfl, ((hF254 2 rfl).trans f113), ((hF254 3 rfl).trans f114), ((hF254 4 rfl).trans f115), ((hF254 5 rfl).trans f116), ((hF254 6 rfl).trans f117), rfl, ((hF254 8 rfl).trans f119), (vi (by omega)), E354, H356, H357, H358, H359, (by omega), ⟨fun _ => (hqb.1 hb355).elim .inl (fun h_ => .inr (.inl h_)), fun _ => rfl⟩⟩
                   · refine lw_vy (.bool (decide (soS (([zi10, zi11, zi12, zi11, zi12, zi13, zi10, zi13]).getD (i * 2) 0) (([zi10, zi11, zi12, zi11, zi12, zi13, zi10, zi13]).getD (i * 2 + 1) 0) (([zi10, zi11, zi12, zi11, zi12, zi13, zi10, zi13]).getD (((((i) + 1) % 4)) * 2) 0) (([zi10, zi11, zi12, zi11, zi12, zi13, zi10, zi13]).getD (((((i) + 1) % 4)) * 2 + 1) 0)))) (d := 129) rfl rfl (congrArg Value.bool hb355) (dv_move (T rfl hv288)) ?_
                     refine lw_vy (.bool (decide (soS (([zi10, zi11, zi12, zi11, zi12, zi13, zi10, zi13]).getD (i * 2) 0) (([zi10, zi11, zi12, zi11, zi12, zi13, zi10, zi13]).getD (i * 2 + 1) 0) (([zi10, zi11, zi12, zi11, zi12, zi13, zi10, zi13]).getD (((((i) + 1) % 4)) * 2) 0) (([zi10, zi11, zi12, zi11, zi12, zi13, zi10, zi13]).getD (((((i) + 1) % 4)) * 2 + 1) 0)))) (d := 129) rfl rfl (congrArg Value.bool hb355) (dv_move (T rfl rfl)) ?_
                     by_cases hb360 : soS (([zi10, zi11, zi12, zi11, zi12, zi13, zi10, zi13]).getD (i * 2) 0) (([zi10, zi11, zi12, zi11, zi12, zi13, zi10, zi13]).getD (i * 2 + 1) 0) (([zi10, zi11, zi12, zi11, zi12, zi13, zi10, zi13]).getD (((((i) + 1) % 4)) * 2) 0) (([zi10, zi11, zi12, zi11, zi12, zi13, zi10, zi13]).getD (((((i) + 1) % 4)) * 2 + 1) 0)
                     · refine lw_vy (.int .i64 k296) (d := 131) rfl rfl (congrArg Value.bool (decide_eq_true hb360)) (dv_move (T rfl rfl)) ?_
                       refine lw_vy (.bool (decide (k296 ≠ 0))) (d := 131) rfl rfl (congrArg Value.bool (decide_eq_true hb360)) (dv_neq (a := k296) (b := 0) (T rfl rfl) C) ?_
                       refine lw_vy (.bool (decide (k296 ≠ 0))) (d := 129) rfl rfl (congrArg Value.bool hb355) (dv_pick_t (T rfl (congrArg Value.bool (decide_eq_true hb360))) (T rfl rfl)) ?_
                       refine lw_v (.bool (decide (k296 ≠ 0))) (dv_pick_f (T rfl (congrArg Value.bool hb355)) (T rfl rfl)) ?_
                       refine lw_v (.bool (decide (k296 ≠ 0))) (dv_assign (T rfl rfl)) ?_
                       refine lw_nil ?_
                       refine rk_inBlock ?_
                       refine rk_reg ?_
                       refine lw_v (.int .i64 ((i : Int))) (dv_move (T rfl ((hF254 9 rfl).trans f120))) ?_
                       refine lw_v (.int .i64 (((i : Int)) + 1)) (dv_add (a := (i : Int)) (b := 1) (z := ((i : Int)) + 1) (T rfl rfl) C (wr_i64 (by omega) (by omega))) ?_
                       refine lw_v (.int .i64 (((i : Int)) + 1)) (dv_assign (T rfl rfl)) ?_
                       refine lw_nil ?_
                       have hsi := side_i (i := i) (by omega) hb71 hb76 hb81 (by omega) (by omega); unfold coX coY at hsi
                       have hkx := hk321.trans hsi.2
                       have hn : ¬ (inB zi10 zi11 zi12 zi13 zi6 zi7 ∨ metN (sM zi6 zi7 zi8 zi9 zi10 zi11 zi12 zi13) i) := fun h_ => by have h2_ := hqb.2 h_; rw [hb355] at h2_; cases h2_
                       have H361 := (s352.blk (s347.blk (n337.ext.blk H339) (by omega)) (by omega))
                       have H362 := (s352.blk (s347.blk (n337.ext.blk H340) (by omega)) (by omega))
                       have H363 := (s352.blk (s347.blk (n337.ext.blk H341) (by omega)) (by omega))
                       have H364 := (s352.blk (s347.blk (n337.ext.blk H342) (by omega)) (by omega))
                       exact ih110 (4 - ((i + 1))) _ _ (by rw [hd126]; omega) ⟨(i + 1), (decide (k296 ≠ 0)), rfl, ((hF254 2 rfl).trans f113), ((hF254 3 rfl).trans f114), ((hF254 4 rfl).trans f115), ((hF254 5 rfl).trans f116), ((hF254 6 rfl).trans f117), rfl, ((hF254 8 rfl).trans f119), (vi (by omega)), E354, H361, H362, H363, H364, (by omega), (by rw [decide_eq_true_iff]; exact ⟨fun h_ => .inr (.inr (hkx.1 h_)), fun h_ => hkx.2 (h_.elim (fun a_ => absurd (.inl a_) hn) (fun b_ => b_.elim (fun c_ => absurd (.inr c_) hn) id))⟩)⟩
                     · refine lw_no (d := 131) rfl rfl (congrArg Value.bool (decide_eq_false hb360)) ?_
                       refine lw_no (d := 131) rfl rfl (congrArg Value.bool (decide_eq_false hb360)) ?_
                       refine lw_vy (.bool false) (d := 129) rfl rfl (congrArg Value.bool hb355) (dv_pick_f (T rfl (congrArg Value.bool (decide_eq_false hb360))) C) ?_
                       refine lw_v (.bool false) (dv_pick_f (T rfl (congrArg Value.bool hb355)) (T rfl rfl)) ?_
                       refine lw_v (.bool false) (dv_assign (T rfl rfl)) ?_
                       refine lw_nil ?_
                       refine rk_inBlock ?_
                       refine rk_reg ?_
                       refine lw_v (.int .i64 ((i : Int))) (dv_move (T rfl ((hF254 9 rfl).trans f120))) ?_
                       refine lw_v (.int .i64 (((i : Int)) + 1)) (dv_add (a := (i : Int)) (b := 1) (z := ((i : Int)) + 1) (T rfl rfl) C (wr_i64 (by omega) (by omega))) ?_
                       refine lw_v (.int .i64 (((i : Int)) + 1)) (dv_assign (T rfl rfl)) ?_
                       refine lw_nil ?_
                       have hsi := side_i (i := i) (by omega) hb71 hb76 hb81 (by omega) (by omega); unfold coX coY at hsi
                       have H365 := (s352.blk (s347.blk (n337.ext.blk H339) (by omega)) (by omega))
                       have H366 := (s352.blk (s347.blk (n337.ext.blk H340) (by omega)) (by omega))
                       have H367 := (s352.blk (s347.blk (n337.ext.blk H341) (by omega)) (by omega))
                       have H368 := (s352.blk (s347.blk (n337.ext.blk H342) (by omega)) (by omega))
                       exact ih110 (4 - ((i + 1))) _ _ (by rw [hd126]; omega) ⟨(i + 1), false, rfl, ((hF254 2 rfl).trans f113), ((hF254 3 rfl).trans f114), ((hF254 4 rfl).trans f115), ((hF254 5 rfl).trans f116), ((hF254 6 rfl).trans f117), rfl, ((hF254 8 rfl).trans f119), (vi (by omega)), E354, H365, H366, H367, H368, (by omega), (hb360 hsi.1).elim⟩
                 · refine rk_cf (T rfl (congrArg Value.bool (decide_eq_false hb127))) ?_
                   refine rk_exit rfl ?_
                   refine rk_seq ?_
                   refine rk_reg ?_
                   refine lw_v (.bool qb) (dv_move (T rfl f118)) ?_
                   refine lw_v (.bool qb) (dv_move (T rfl rfl)) ?_
                   rcases Bool.eq_false_or_eq_true (qb) with hb369 | hb369
                   · refine lw_no (d := 137) rfl rfl (congrArg Value.bool hb369) ?_
                     refine lw_no (d := 137) rfl rfl (congrArg Value.bool hb369) ?_
                     refine lw_no (d := 137) rfl rfl (congrArg Value.bool hb369) ?_
                     refine lw_no (d := 137) rfl rfl (congrArg Value.bool hb369) ?_
                     refine lw_no (d := 137) rfl rfl (congrArg Value.bool hb369) ?_
                     refine lw_no (d := 137) rfl rfl (congrArg Value.bool hb369) ?_
                     refine lw_no (d := 137) rfl rfl (congrArg Value.bool hb369) ?_
                     refine lw_nou (d := 144) rfl rfl ?_
                     refine lw_nou (d := 144) rfl rfl ?_
                     refine lw_nou (d := 144) rfl rfl ?_
                     refine lw_nou (d := 144) rfl rfl ?_
                     refine lw_nou (d := 144) rfl rfl ?_
                     refine lw_nou (d := 144) rfl rfl ?_
                     refine lw_no (d := 137) rfl rfl (congrArg Value.bool hb369) ?_
                     refine lw_no (d := 137) rfl rfl (congrArg Value.bool hb369) ?_
                     refine lw_nou (d := 152) rfl rfl ?_
                     refine lw_nou (d := 152) rfl rfl ?_
                     refine lw_nou (d := 152) rfl rfl ?_
                     refine lw_nou (d := 152) rfl rfl ?_
                     refine lw_nou (d := 152) rfl rfl ?_
                     refine lw_nou (d := 152) rfl rfl ?_
                     refine lw_no (d := 137) rfl rfl (congrArg Value.bool hb369) ?_
                     refine lw_no (d := 137) rfl rfl (congrArg Value.bool hb369) ?_
                     refine lw_nou (d := 160) rfl rfl ?_
                     refine lw_nou (d := 160) rfl rfl ?_
                     refine lw_nou (d := 160) rfl rfl ?_
                     refine lw_nou (d := 160) rfl rfl ?_
                     refine lw_nou (d := 160) rfl rfl ?_
                     refine lw_nou (d := 160) rfl rfl ?_
                     refine lw_no (d := 137) rfl rfl (congrArg Value.bool hb369) ?_
                     refine lw_v (.bool true) (dv_pick_t (T rfl (congrArg Value.bool hb369)) C) ?_
                     refine lw_v (.bool true) (dv_assign (T rfl rfl)) ?_
                     refine lw_nil ?_
                     refine rk_seq ?_
                     refine rk_reg ?_
                     refine lw_v (.bool (decide (segOk zi6 zi7 zi8 zi9 ∧ bxOk zi10 zi11 zi12 zi13 ∧ mbV zi6 zi7 zi8 zi9 zi10 zi11 zi12 zi13))) (dv_move (T rfl f117)) ?_
                     refine lw_v (.bool true) (dv_move (T rfl rfl)) ?_
                     refine lw_v (.bool ((decide (segOk zi6 zi7 zi8 zi9 ∧ bxOk zi10 zi11 zi12 zi13 ∧ mbV zi6 zi7 zi8 zi9 zi10 zi11 zi12 zi13)) == true)) (dv_eqlb (a := decide (segOk zi6 zi7 zi8 zi9 ∧ bxOk zi10 zi11 zi12 zi13 ∧ mbV zi6 zi7 zi8 zi9 zi10 zi11 zi12 zi13)) (b := true) ub4 (T rfl rfl) (T rfl rfl)) ?_
                     refine lw_v (.bool ((decide (segOk zi6 zi7 zi8 zi9 ∧ bxOk zi10 zi11 zi12 zi13 ∧ mbV zi6 zi7 zi8 zi9 zi10 zi11 zi12 zi13)) == true)) (dv_assign (T rfl rfl)) ?_
                     refine lw_nil ?_
                     refine rk_ret Try.func3 (v := .bool ((decide (segOk zi6 zi7 zi8 zi9 ∧ bxOk zi10 zi11 zi12 zi13 ∧ mbV zi6 zi7 zi8 zi9 zi10 zi11 zi12 zi13)) == true)) (res1 Try.results3 (rv_tmp rfl rfl)) ⟨_, rfl, ?_⟩
                     have hi4 : i = 4 := by omega
                     rw [hi4] at hqb
                     have bm := box_met hb71 (show zi10 < zi12 by omega) (show zi11 < zi13 by omega)
                     have hX : (segOk zi6 zi7 zi8 zi9 ∧ bxOk zi10 zi11 zi12 zi13 ∧ mbV zi6 zi7 zi8 zi9 zi10 zi11 zi12 zi13) ↔ mbV zi6 zi7 zi8 zi9 zi10 zi11 zi12 zi13 := ⟨fun h_ => h_.2.2, fun h_ => ⟨hb71, ⟨hb76, hb81, by omega, by omega⟩, h_⟩⟩
                     exact ⟨congrArg Value.bool (by rw [decide_eq_true (hX.2 (bm.2 (.inl (hqb.1 hb369))))]; rfl), E121⟩
                   · refine lw_vy (.pointer (some ⟨b25, 2, none⟩)) (d := 137) rfl rfl (congrArg Value.bool hb369) (dv_fieldAddr (a := ⟨b25, 0, none⟩) (a' := ⟨b25, 2, none⟩) fo27_1 (T rfl f114) rfl) ?_
                     refine lw_vy (.pointer (some ⟨b25, 2, none⟩)) (d := 137) rfl rfl (congrArg Value.bool hb369) (dv_fieldAddr (a := ⟨b25, 2, none⟩) (a' := ⟨b25, 2, none⟩) fo25_0 (T rfl rfl) rfl) ?_
                     refine lw_vy (.int .i64 zi8) (d := 137) rfl rfl (congrArg Value.bool hb369) (dv_load1 (b := b25) (o := 2) agt2 (T rfl rfl) H122 rfl) ?_
                     refine lw_vy (.pointer (some ⟨b30, 0, none⟩)) (d := 137) rfl rfl (congrArg Value.bool hb369) (dv_fieldAddr (a := ⟨b30, 0, none⟩) (a' := ⟨b30, 0, none⟩) fo25_0 (T rfl f115) rfl) ?_
                     refine lw_vy (.int .i64 zi10) (d := 137) rfl rfl (congrArg Value.bool hb369) (dv_load1 (b := b30) (o := 0) agt2 (T rfl rfl) H123 rfl) ?_
                     refine lw_vy (.bool (decide (zi10 ≤ zi8))) (d := 137) rfl rfl (congrArg Value.bool hb369) (dv_geq (a := zi8) (b := zi10) (T rfl rfl) (T rfl rfl)) ?_
                     refine lw_vy (.bool (decide (zi10 ≤ zi8))) (d := 137) rfl rfl (congrArg Value.bool hb369) (dv_move (T rfl rfl)) ?_
                     by_cases hb370 : zi10 ≤ zi8
                     · refine lw_vy (.pointer (some ⟨b25, 2, none⟩)) (d := 144) rfl rfl (congrArg Value.bool (decide_eq_true hb370)) (dv_fieldAddr (a := ⟨b25, 0, none⟩) (a' := ⟨b25, 2, none⟩) fo27_1 (T rfl f114) rfl) ?_
                       refine lw_vy (.pointer (some ⟨b25, 2, none⟩)) (d := 144) rfl rfl (congrArg Value.bool (decide_eq_true hb370)) (dv_fieldAddr (a := ⟨b25, 2, none⟩) (a' := ⟨b25, 2, none⟩) fo25_0 (T rfl rfl) rfl) ?_
                       refine lw_vy (.int .i64 zi8) (d := 144) rfl rfl (congrArg Value.bool (decide_eq_true hb370)) (dv_load1 (b := b25) (o := 2) agt2 (T rfl rfl) H122 rfl) ?_
                       refine lw_vy (.pointer (some ⟨b35, 0, none⟩)) (d := 144) rfl rfl (congrArg Value.bool (decide_eq_true hb370)) (dv_fieldAddr (a := ⟨b35, 0, none⟩) (a' := ⟨b35, 0, none⟩) fo25_0 (T rfl f116) rfl) ?_
                       refine lw_vy (.int .i64 zi12) (d := 144) rfl rfl (congrArg Value.bool (decide_eq_true hb370)) (dv_load1 (b := b35) (o := 0) agt2 (T rfl rfl) H124 rfl) ?_
                       refine lw_vy (.bool (decide (zi8 ≤ zi12))) (d := 144) rfl rfl (congrArg Value.bool (decide_eq_true hb370)) (dv_leq (a := zi8) (b := zi12) (T rfl rfl) (T rfl rfl)) ?_
                       refine lw_vy (.bool (decide (zi8 ≤ zi12))) (d := 137) rfl rfl (congrArg Value.bool hb369) (dv_pick_t (T rfl (congrArg Value.bool (decide_eq_true hb370))) (T rfl rfl)) ?_
                       refine lw_vy (.bool (decide (zi8 ≤ zi12))) (d := 137) rfl rfl (congrArg Value.bool hb369) (dv_move (T rfl rfl)) ?_
                       by_cases hb371 : zi8 ≤ zi12
                       · refine lw_vy (.pointer (some ⟨b25, 2, none⟩)) (d := 152) rfl rfl (congrArg Value.bool (decide_eq_true hb371)) (dv_fieldAddr (a := ⟨b25, 0, none⟩) (a' := ⟨b25, 2, none⟩) fo27_1 (T rfl f114) rfl) ?_
                         refine lw_vy (.pointer (some ⟨b25, 3, none⟩)) (d := 152) rfl rfl (congrArg Value.bool (decide_eq_true hb371)) (dv_fieldAddr (a := ⟨b25, 2, none⟩) (a' := ⟨b25, 3, none⟩) fo25_1 (T rfl rfl) rfl) ?_
                         refine lw_vy (.int .i64 zi9) (d := 152) rfl rfl (congrArg Value.bool (decide_eq_true hb371)) (dv_load1 (b := b25) (o := 3) agt2 (T rfl rfl) H122 rfl) ?_
                         refine lw_vy (.pointer (some ⟨b30, 1, none⟩)) (d := 152) rfl rfl (congrArg Value.bool (decide_eq_true hb371)) (dv_fieldAddr (a := ⟨b30, 0, none⟩) (a' := ⟨b30, 1, none⟩) fo25_1 (T rfl f115) rfl) ?_
                         refine lw_vy (.int .i64 zi11) (d := 152) rfl rfl (congrArg Value.bool (decide_eq_true hb371)) (dv_load1 (b := b30) (o := 1) agt2 (T rfl rfl) H123 rfl) ?_
                         refine lw_vy (.bool (decide (zi11 ≤ zi9))) (d := 152) rfl rfl (congrArg Value.bool (decide_eq_true hb371)) (dv_geq (a := zi9) (b := zi11) (T rfl rfl) (T rfl rfl)) ?_
                         refine lw_vy (.bool (decide (zi11 ≤ zi9))) (d := 137) rfl rfl (congrArg Value.bool hb369) (dv_pick_t (T rfl (congrArg Value.bool (decide_eq_true hb371))) (T rfl rfl)) ?_
                         refine lw_vy (.bool (decide (zi11 ≤ zi9))) (d := 137) rfl rfl (congrArg Value.bool hb369) (dv_move (T rfl rfl)) ?_
                         by_cases hb372 : zi11 ≤ zi9
                         · refine lw_vy (.pointer (some ⟨b25, 2, none⟩)) (d := 160) rfl rfl (congrArg Value.bool (decide_eq_true hb372)) (dv_fieldAddr (a := ⟨b25, 0, none⟩) (a' := ⟨b25, 2, none⟩) fo27_1 (T rfl f114) rfl) ?_
                           refine lw_vy (.pointer (some ⟨b25, 3, none⟩)) (d := 160) rfl rfl (congrArg Value.bool (decide_eq_true hb372)) (dv_fieldAddr (a := ⟨b25, 2, none⟩) (a' := ⟨b25, 3, none⟩) fo25_1 (T rfl rfl) rfl) ?_
                           refine lw_vy (.int .i64 zi9) (d := 160) rfl rfl (congrArg Value.bool (decide_eq_true hb372)) (dv_load1 (b := b25) (o := 3) agt2 (T rfl rfl) H122 rfl) ?_
                           refine lw_vy (.pointer (some ⟨b35, 1, none⟩)) (d := 160) rfl rfl (congrArg Value.bool (decide_eq_true hb372)) (dv_fieldAddr (a := ⟨b35, 0, none⟩) (a' := ⟨b35, 1, none⟩) fo25_1 (T rfl f116) rfl) ?_
                           refine lw_vy (.int .i64 zi13) (d := 160) rfl rfl (congrArg Value.bool (decide_eq_true hb372)) (dv_load1 (b := b35) (o := 1) agt2 (T rfl rfl) H124 rfl) ?_
                           refine lw_vy (.bool (decide (zi9 ≤ zi13))) (d := 160) rfl rfl (congrArg Value.bool (decide_eq_true hb372)) (dv_leq (a := zi9) (b := zi13) (T rfl rfl) (T rfl rfl)) ?_
                           refine lw_vy (.bool (decide (zi9 ≤ zi13))) (d := 137) rfl rfl (congrArg Value.bool hb369) (dv_pick_t (T rfl (congrArg Value.bool (decide_eq_true hb372))) (T rfl rfl)) ?_
                           refine lw_v (.bool (decide (zi9 ≤ zi13))) (dv_pick_f (T rfl (congrArg Value.bool hb369)) (T rfl rfl)) ?_
                           refine lw_v (.bool (decide (zi9 ≤ zi13))) (dv_assign (T rfl rfl)) ?_
                           refine lw_nil ?_
                           refine rk_seq ?_
                           refine rk_reg ?_
                           refine lw_v (.bool (decide (segOk zi6 zi7 zi8 zi9 ∧ bxOk zi10 zi11 zi12 zi13 ∧ mbV zi6 zi7 zi8 zi9 zi10 zi11 zi12 zi13))) (dv_move (T rfl f117)) ?_
                           refine lw_v (.bool (decide (zi9 ≤ zi13))) (dv_move (T rfl rfl)) ?_
                           refine lw_v (.bool ((decide (segOk zi6 zi7 zi8 zi9 ∧ bxOk zi10 zi11 zi12 zi13 ∧ mbV zi6 zi7 zi8 zi9 zi10 zi11 zi12 zi13)) == (decide (zi9 ≤ zi13)))) (dv_eqlb (a := decide (segOk zi6 zi7 zi8 zi9 ∧ bxOk zi10 zi11 zi12 zi13 ∧ mbV zi6 zi7 zi8 zi9 zi10 zi11 zi12 zi13)) (b := decide (zi9 ≤ zi13)) ub4 (T rfl rfl) (T rfl rfl)) ?_
                           refine lw_v (.bool ((decide (segOk zi6 zi7 zi8 zi9 ∧ bxOk zi10 zi11 zi12 zi13 ∧ mbV zi6 zi7 zi8 zi9 zi10 zi11 zi12 zi13)) == (decide (zi9 ≤ zi13)))) (dv_assign (T rfl rfl)) ?_
                           refine lw_nil ?_
                           refine rk_ret Try.func3 (v := .bool ((decide (segOk zi6 zi7 zi8 zi9 ∧ bxOk zi10 zi11 zi12 zi13 ∧ mbV zi6 zi7 zi8 zi9 zi10 zi11 zi12 zi13)) == (decide (zi9 ≤ zi13)))) (res1 Try.results3 (rv_tmp rfl rfl)) ⟨_, rfl, ?_⟩
                           have hi4 : i = 4 := by omega
                           rw [hi4] at hqb
                           have bm := box_met hb71 (show zi10 < zi12 by omega) (show zi11 < zi13 by omega)
                           have hX : (segOk zi6 zi7 zi8 zi9 ∧ bxOk zi10 zi11 zi12 zi13 ∧ mbV zi6 zi7 zi8 zi9 zi10 zi11 zi12 zi13) ↔ mbV zi6 zi7 zi8 zi9 zi10 zi11 zi12 zi13 := ⟨fun h_ => h_.2.2, fun h_ => ⟨hb71, ⟨hb76, hb81, by omega, by omega⟩, h_⟩⟩
                           have hn : ¬ (inB zi10 zi11 zi12 zi13 zi6 zi7 ∨ metN (sM zi6 zi7 zi8 zi9 zi10 zi11 zi12 zi13) 4) := fun h_ => by have h2_ := hqb.2 h_; rw [hb369] at h2_; cases h2_
                           exact ⟨congrArg Value.bool (by rw [show decide (segOk zi6 zi7 zi8 zi9 ∧ bxOk zi10 zi11 zi12 zi13 ∧ mbV zi6 zi7 zi8 zi9 zi10 zi11 zi12 zi13) = decide (zi9 ≤ zi13) from decide_eq_decide.2 ⟨fun h_ => (bm.1 (hX.1 h_)).elim (fun a_ => absurd a_ hn) (fun b_ => b_.2.2.2), fun h_ => hX.2 (bm.2 (.inr ⟨hb370, hb371, hb372, h_⟩))⟩]; simp), E121⟩
                         · refine lw_no (d := 160) rfl rfl (congrArg Value.bool (decide_eq_false hb372)) ?_
                           refine lw_no (d := 160) rfl rfl (congrArg Value.bool (decide_eq_false hb372)) ?_
                           refine lw_no (d := 160) rfl rfl (congrArg Value.bool (decide_eq_false hb372)) ?_
                           refine lw_no (d := 160) rfl rfl (congrArg Value.bool (decide_eq_false hb372)) ?_
                           refine lw_no (d := 160) rfl rfl (congrArg Value.bool (decide_eq_false hb372)) ?_
                           refine lw_no (d := 160) rfl rfl (congrArg Value.bool (decide_eq_false hb372)) ?_
                           refine lw_vy (.bool false) (d := 137) rfl rfl (congrArg Value.bool hb369) (dv_pick_f (T rfl (congrArg Value.bool (decide_eq_false hb372))) C) ?_
                           refine lw_v (.bool false) (dv_pick_f (T rfl (congrArg Value.bool hb369)) (T rfl rfl)) ?_
                           refine lw_v (.bool false) (dv_assign (T rfl rfl)) ?_
                           refine lw_nil ?_
                           refine rk_seq ?_
                           refine rk_reg ?_
                           refine lw_v (.bool (decide (segOk zi6 zi7 zi8 zi9 ∧ bxOk zi10 zi11 zi12 zi13 ∧ mbV zi6 zi7 zi8 zi9 zi10 zi11 zi12 zi13))) (dv_move (T rfl f117)) ?_
                           refine lw_v (.bool false) (dv_move (T rfl rfl)) ?_
                           refine lw_v (.bool ((decide (segOk zi6 zi7 zi8 zi9 ∧ bxOk zi10 zi11 zi12 zi13 ∧ mbV zi6 zi7 zi8 zi9 zi10 zi11 zi12 zi13)) == false)) (dv_eqlb (a := decide (segOk zi6 zi7 zi8 zi9 ∧ bxOk zi10 zi11 zi12 zi13 ∧ mbV zi6 zi7 zi8 zi9 zi10 zi11 zi12 zi13)) (b := false) ub4 (T rfl rfl) (T rfl rfl)) ?_
                           refine lw_v (.bool ((decide (segOk zi6 zi7 zi8 zi9 ∧ bxOk zi10 zi11 zi12 zi13 ∧ mbV zi6 zi7 zi8 zi9 zi10 zi11 zi12 zi13)) == false)) (dv_assign (T rfl rfl)) ?_
                           refine lw_nil ?_
                           refine rk_ret Try.func3 (v := .bool ((decide (segOk zi6 zi7 zi8 zi9 ∧ bxOk zi10 zi11 zi12 zi13 ∧ mbV zi6 zi7 zi8 zi9 zi10 zi11 zi12 zi13)) == false)) (res1 Try.results3 (rv_tmp rfl rfl)) ⟨_, rfl, ?_⟩
                           have hi4 : i = 4 := by omega
                           rw [hi4] at hqb
                           have bm := box_met hb71 (show zi10 < zi12 by omega) (show zi11 < zi13 by omega)
                           have hX : (segOk zi6 zi7 zi8 zi9 ∧ bxOk zi10 zi11 zi12 zi13 ∧ mbV zi6 zi7 zi8 zi9 zi10 zi11 zi12 zi13) ↔ mbV zi6 zi7 zi8 zi9 zi10 zi11 zi12 zi13 := ⟨fun h_ => h_.2.2, fun h_ => ⟨hb71, ⟨hb76, hb81, by omega, by omega⟩, h_⟩⟩
                           have hn : ¬ (inB zi10 zi11 zi12 zi13 zi6 zi7 ∨ metN (sM zi6 zi7 zi8 zi9 zi10 zi11 zi12 zi13) 4) := fun h_ => by have h2_ := hqb.2 h_; rw [hb369] at h2_; cases h2_
                           exact ⟨congrArg Value.bool (by rw [decide_eq_false (fun h_ : segOk zi6 zi7 zi8 zi9 ∧ bxOk zi10 zi11 zi12 zi13 ∧ mbV zi6 zi7 zi8 zi9 zi10 zi11 zi12 zi13 => (bm.1 (hX.1 h_)).elim hn (fun b_ => absurd b_.2.2.1 hb372))]; rfl), E121⟩
                       · refine lw_no (d := 152) rfl rfl (congrArg Value.bool (decide_eq_false hb371)) ?_
                         refine lw_no (d := 152) rfl rfl (congrArg Value.bool (decide_eq_false hb371)) ?_
                         refine lw_no (d := 152) rfl rfl (congrArg Value.bool (decide_eq_false hb371)) ?_
                         refine lw_no (d := 152) rfl rfl (congrArg Value.bool (decide_eq_false hb371)) ?_
                         refine lw_no (d := 152) rfl rfl (congrArg Value.bool (decide_eq_false hb371)) ?_
                         refine lw_no (d := 152) rfl rfl (congrArg Value.bool (decide_eq_false hb371)) ?_
                         refine lw_vy (.bool false) (d := 137) rfl rfl (congrArg Value.bool hb369) (dv_pick_f (T rfl (congrArg Value.bool (decide_eq_false hb371))) C) ?_
                         refine lw_vy (.bool false) (d := 137) rfl rfl (congrArg Value.bool hb369) (dv_move (T rfl rfl)) ?_
                         refine lw_no (d := 160) rfl rfl (rfl) ?_
                         refine lw_no (d := 160) rfl rfl (rfl) ?_
                         refine lw_no (d := 160) rfl rfl (rfl) ?_
                         refine lw_no (d := 160) rfl rfl (rfl) ?_
                         refine lw_no (d := 160) rfl rfl (rfl) ?_
                         refine lw_no (d := 160) rfl rfl (rfl) ?_
                         refine lw_vy (.bool false) (d := 137) rfl rfl (congrArg Value.bool hb369) (dv_pick_f (T rfl rfl) C) ?_
                         refine lw_v (.bool false) (dv_pick_f (T rfl (congrArg Value.bool hb369)) (T rfl rfl)) ?_
                         refine lw_v (.bool false) (dv_assign (T rfl rfl)) ?_
                         refine lw_nil ?_
                         refine rk_seq ?_
                         refine rk_reg ?_
                         refine lw_v (.bool (decide (segOk zi6 zi7 zi8 zi9 ∧ bxOk zi10 zi11 zi12 zi13 ∧ mbV zi6 zi7 zi8 zi9 zi10 zi11 zi12 zi13))) (dv_move (T rfl f117)) ?_
                         refine lw_v (.bool false) (dv_move (T rfl rfl)) ?_
                         refine lw_v (.bool ((decide (segOk zi6 zi7 zi8 zi9 ∧ bxOk zi10 zi11 zi12 zi13 ∧ mbV zi6 zi7 zi8 zi9 zi10 zi11 zi12 zi13)) == false)) (dv_eqlb (a := decide (segOk zi6 zi7 zi8 zi9 ∧ bxOk zi10 zi11 zi12 zi13 ∧ mbV zi6 zi7 zi8 zi9 zi10 zi11 zi12 zi13)) (b := false) ub4 (T rfl rfl) (T rfl rfl)) ?_
                         refine lw_v (.bool ((decide (segOk zi6 zi7 zi8 zi9 ∧ bxOk zi10 zi11 zi12 zi13 ∧ mbV zi6 zi7 zi8 zi9 zi10 zi11 zi12 zi13)) == false)) (dv_assign (T rfl rfl)) ?_
                         refine lw_nil ?_
                         refine rk_ret Try.func3 (v := .bool ((decide (segOk zi6 zi7 zi8 zi9 ∧ bxOk zi10 zi11 zi12 zi13 ∧ mbV zi6 zi7 zi8 zi9 zi10 zi11 zi12 zi13)) == false)) (res1 Try.results3 (rv_tmp rfl rfl)) ⟨_, rfl, ?_⟩
                         have hi4 : i = 4 := by omega
                         rw [hi4] at hqb
                         have bm := box_met hb71 (show zi10 < zi12 by omega) (show zi11 < zi13 by omega)
                         have hX : (segOk zi6 zi7 zi8 zi9 ∧ bxOk zi10 zi11 zi12 zi13 ∧ mbV zi6 zi7 zi8 zi9 zi10 zi11 zi12 zi13) ↔ mbV zi6 zi7 zi8 zi9 zi10 zi11 zi12 zi13 := ⟨fun h_ => h_.2.2, fun h_ => ⟨hb71, ⟨hb76, hb81, by omega, by omega⟩, h_⟩⟩
                         have hn : ¬ (inB zi10 zi11 zi12 zi13 zi6 zi7 ∨ metN (sM zi6 zi7 zi8 zi9 zi10 zi11 zi12 zi13) 4) := fun h_ => by have h2_ := hqb.2 h_; rw [hb369] at h2_; cases h2_
                         exact ⟨congrArg Value.bool (by rw [decide_eq_false (fun h_ : segOk zi6 zi7 zi8 zi9 ∧ bxOk zi10 zi11 zi12 zi13 ∧ mbV zi6 zi7 zi8 zi9 zi10 zi11 zi12 zi13 => (bm.1 (hX.1 h_)).elim hn (fun b_ => absurd b_.2.1 hb371))]; rfl), E121⟩
                     · refine lw_no (d := 144) rfl rfl (congrArg Value.bool (decide_eq_false hb370)) ?_
                       refine lw_no (d := 144) rfl rfl (congrArg Value.bool (decide_eq_false hb370)) ?_
                       refine lw_no (d := 144) rfl rfl (congrArg Value.bool (decide_eq_false hb370)) ?_
                       refine lw_no (d := 144) rfl rfl (congrArg Value.bool (decide_eq_false hb370)) ?_
                       refine lw_no (d := 144) rfl rfl (congrArg Value.bool (decide_eq_false hb370)) ?_
                       refine lw_no (d := 144) rfl rfl (congrArg Value.bool (decide_eq_false hb370)) ?_
                       refine lw_vy (.bool false) (d := 137) rfl rfl (congrArg Value.bool hb369) (dv_pick_f (T rfl (congrArg Value.bool (decide_eq_false hb370))) C) ?_
                       refine lw_vy (.bool false) (d := 137) rfl rfl (congrArg Value.bool hb369) (dv_move (T rfl rfl)) ?_
                       refine lw_no (d := 152) rfl rfl (rfl) ?_
                       refine lw_no (d := 152) rfl rfl (rfl) ?_
                       refine lw_no (d := 152) rfl rfl (rfl) ?_
                       refine lw_no (d := 152) rfl rfl (rfl) ?_
                       refine lw_no (d := 152) rfl rfl (rfl) ?_
                       refine lw_no (d := 152) rfl rfl (rfl) ?_
                       refine lw_vy (.bool false) (d := 137) rfl rfl (congrArg Value.bool hb369) (dv_pick_f (T rfl rfl) C) ?_
                       refine lw_vy (.bool false) (d := 137) rfl rfl (congrArg Value.bool hb369) (dv_move (T rfl rfl)) ?_
                       refine lw_no (d := 160) rfl rfl (rfl) ?_
                       refine lw_no (d := 160) rfl rfl (rfl) ?_
                       refine lw_no (d := 160) rfl rfl (rfl) ?_
                       refine lw_no (d := 160) rfl rfl (rfl) ?_
                       refine lw_no (d := 160) rfl rfl (rfl) ?_
                       refine lw_no (d := 160) rfl rfl (rfl) ?_
                       refine lw_vy (.bool false) (d := 137) rfl rfl (congrArg Value.bool hb369) (dv_pick_f (T rfl rfl) C) ?_
                       refine lw_v (.bool false) (dv_pick_f (T rfl (congrArg Value.bool hb369)) (T rfl rfl)) ?_
                       refine lw_v (.bool false) (dv_assign (T rfl rfl)) ?_
                       refine lw_nil ?_
                       refine rk_seq ?_
                       refine rk_reg ?_
                       refine lw_v (.bool (decide (segOk zi6 zi7 zi8 zi9 ∧ bxOk zi10 zi11 zi12 zi13 ∧ mbV zi6 zi7 zi8 zi9 zi10 zi11 zi12 zi13))) (dv_move (T rfl f117)) ?_
                       refine lw_v (.bool false) (dv_move (T rfl rfl)) ?_
                       refine lw_v (.bool ((decide (segOk zi6 zi7 zi8 zi9 ∧ bxOk zi10 zi11 zi12 zi13 ∧ mbV zi6 zi7 zi8 zi9 zi10 zi11 zi12 zi13)) == false)) (dv_eqlb (a := decide (segOk zi6 zi7 zi8 zi9 ∧ bxOk zi10 zi11 zi12 zi13 ∧ mbV zi6 zi7 zi8 zi9 zi10 zi11 zi12 zi13)) (b := false) ub4 (T rfl rfl) (T rfl rfl)) ?_
                       refine lw_v (.bool ((decide (segOk zi6 zi7 zi8 zi9 ∧ bxOk zi10 zi11 zi12 zi13 ∧ mbV zi6 zi7 zi8 zi9 zi10 zi11 zi12 zi13)) == false)) (dv_assign (T rfl rfl)) ?_
                       refine lw_nil ?_
                       refine rk_ret Try.func3 (v := .bool ((decide (segOk zi6 zi7 zi8 zi9 ∧ bxOk zi10 zi11 zi12 zi13 ∧ mbV zi6 zi7 zi8 zi9 zi10 zi11 zi12 zi13)) == false)) (res1 Try.results3 (rv_tmp rfl rfl)) ⟨_, rfl, ?_⟩
                       have hi4 : i = 4 := by omega
                       rw [hi4] at hqb
                       have bm := box_met hb71 (show zi10 < zi12 by omega) (show zi11 < zi13 by omega)
                       have hX : (segOk zi6 zi7 zi8 zi9 ∧ bxOk zi10 zi11 zi12 zi13 ∧ mbV zi6 zi7 zi8 zi9 zi10 zi11 zi12 zi13) ↔ mbV zi6 zi7 zi8 zi9 zi10 zi11 zi12 zi13 := ⟨fun h_ => h_.2.2, fun h_ => ⟨hb71, ⟨hb76, hb81, by omega, by omega⟩, h_⟩⟩
                       have hn : ¬ (inB zi10 zi11 zi12 zi13 zi6 zi7 ∨ metN (sM zi6 zi7 zi8 zi9 zi10 zi11 zi12 zi13) 4) := fun h_ => by have h2_ := hqb.2 h_; rw [hb369] at h2_; cases h2_
                       exact ⟨congrArg Value.bool (by rw [decide_eq_false (fun h_ : segOk zi6 zi7 zi8 zi9 ∧ bxOk zi10 zi11 zi12 zi13 ∧ mbV zi6 zi7 zi8 zi9 zi10 zi11 zi12 zi13 => (bm.1 (hX.1 h_)).elim hn (fun b_ => absurd b_.1 hb370))]; rfl), E121⟩
               · refine rk_reg ?_
                 refine lw_v (.pointer (some ⟨b25, 0, none⟩)) (dv_fieldAddr (a := ⟨b25, 0, none⟩) (a' := ⟨b25, 0, none⟩) fo27_0 (T rfl rfl) rfl) ?_
                 refine lw_v (.pointer (some ⟨b25, 0, none⟩)) (dv_fieldAddr (a := ⟨b25, 0, none⟩) (a' := ⟨b25, 0, none⟩) fo25_0 (T rfl rfl) rfl) ?_
                 have H373 := (e79.blk (e74.blk (e69.blk H67)))
                 refine lw_v (.int .i64 zi6) (dv_load1 (b := b25) (o := 0) agt2 (T rfl rfl) H373 rfl) ?_
                 refine lw_v (.pointer (some ⟨b30, 0, none⟩)) (dv_fieldAddr (a := ⟨b30, 0, none⟩) (a' := ⟨b30, 0, none⟩) fo25_0 (T rfl rfl) rfl) ?_
                 refine lw_v (.int .i64 zi10) (dv_load1 (b := b30) (o := 0) agt2 (T rfl rfl) H82 rfl) ?_
                 refine lw_v (.bool (decide (zi10 ≤ zi6))) (dv_geq (a := zi6) (b := zi10) (T rfl rfl) (T rfl rfl)) ?_
                 refine lw_v (.bool (decide (zi10 ≤ zi6))) (dv_move (T rfl rfl)) ?_
                 by_cases hb374 : zi10 ≤ zi6
                 · refine lw_vy (.pointer (some ⟨b25, 0, none⟩)) (d := 66) rfl rfl (congrArg Value.bool (decide_eq_true hb374)) (dv_fieldAddr (a := ⟨b25, 0, none⟩) (a' := ⟨b25, 0, none⟩) fo27_0 (T rfl rfl) rfl) ?_
                   refine lw_vy (.pointer (some ⟨b25, 0, none⟩)) (d := 66) rfl rfl (congrArg Value.bool (decide_eq_true hb374)) (dv_fieldAddr (a := ⟨b25, 0, none⟩) (a' := ⟨b25, 0, none⟩) fo25_0 (T rfl rfl) rfl) ?_
                   refine lw_vy (.int .i64 zi6) (d := 66) rfl rfl (congrArg Value.bool (decide_eq_true hb374)) (dv_load1 (b := b25) (o := 0) agt2 (T rfl rfl) H373 rfl) ?_
                   refine lw_vy (.pointer (some ⟨b35, 0, none⟩)) (d := 66) rfl rfl (congrArg Value.bool (decide_eq_true hb374)) (dv_fieldAddr (a := ⟨b35, 0, none⟩) (a' := ⟨b35, 0, none⟩) fo25_0 (T rfl rfl) rfl) ?_
                   refine lw_vy (.int .i64 zi12) (d := 66) rfl rfl (congrArg Value.bool (decide_eq_true hb374)) (dv_load1 (b := b35) (o := 0) agt2 (T rfl rfl) H83 rfl) ?_
                   refine lw_vy (.bool (decide (zi6 ≤ zi12))) (d := 66) rfl rfl (congrArg Value.bool (decide_eq_true hb374)) (dv_leq (a := zi6) (b := zi12) (T rfl rfl) (T rfl rfl)) ?_
                   refine lw_v (.bool (decide (zi6 ≤ zi12))) (dv_pick_t (T rfl (congrArg Value.bool (decide_eq_true hb374))) (T rfl rfl)) ?_
                   refine lw_v (.bool (decide (zi6 ≤ zi12))) (dv_move (T rfl rfl)) ?_
                   by_cases hb375 : zi6 ≤ zi12
                   · refine lw_vy (.pointer (some ⟨b25, 0, none⟩)) (d := 74) rfl rfl (congrArg Value.bool (decide_eq_true hb375)) (dv_fieldAddr (a := ⟨b25, 0, none⟩) (a' := ⟨b25, 0, none⟩) fo27_0 (T rfl rfl) rfl) ?_
                     refine lw_vy (.pointer (some ⟨b25, 1, none⟩)) (d := 74) rfl rfl (congrArg Value.bool (decide_eq_true hb375)) (dv_fieldAddr (a := ⟨b25, 0, none⟩) (a' := ⟨b25, 1, none⟩) fo25_1 (T rfl rfl) rfl) ?_
                     refine lw_vy (.int .i64 zi7) (d := 74) rfl rfl (congrArg Value.bool (decide_eq_true hb375)) (dv_load1 (b := b25) (o := 1) agt2 (T rfl rfl) H373 rfl) ?_
                     refine lw_vy (.pointer (some ⟨b30, 1, none⟩)) (d := 74) rfl rfl (congrArg Value.bool (decide_eq_true hb375)) (dv_fieldAddr (a := ⟨b30, 0, none⟩) (a' := ⟨b30, 1, none⟩) fo25_1 (T rfl rfl) rfl) ?_
                     refine lw_vy (.int .i64 zi11) (d := 74) rfl rfl (congrArg Value.bool (decide_eq_true hb375)) (dv_load1 (b := b30) (o := 1) agt2 (T rfl rfl) H82 rfl) ?_
                     refine lw_vy (.bool (decide (zi11 ≤ zi7))) (d := 74) rfl rfl (congrArg Value.bool (decide_eq_true hb375)) (dv_geq (a := zi7) (b := zi11) (T rfl rfl) (T rfl rfl)) ?_
                     refine lw_v (.bool (decide (zi11 ≤ zi7))) (dv_pick_t (T rfl (congrArg Value.bool (decide_eq_true hb375))) (T rfl rfl)) ?_
                     refine lw_v (.bool (decide (zi11 ≤ zi7))) (dv_move (T rfl rfl)) ?_
                     by_cases hb376 : zi11 ≤ zi7
                     · refine lw_vy (.pointer (some ⟨b25, 0, none⟩)) (d := 82) rfl rfl (congrArg Value.bool (decide_eq_true hb376)) (dv_fieldAddr (a := ⟨b25, 0, none⟩) (a' := ⟨b25, 0, none⟩) fo27_0 (T rfl rfl) rfl) ?_
                       refine lw_vy (.pointer (some ⟨b25, 1, none⟩)) (d := 82) rfl rfl (congrArg Value.bool (decide_eq_true hb376)) (dv_fieldAddr (a := ⟨b25, 0, none⟩) (a' := ⟨b25, 1, none⟩) fo25_1 (T rfl rfl) rfl) ?_
                       refine lw_vy (.int .i64 zi7) (d := 82) rfl rfl (congrArg Value.bool (decide_eq_true hb376)) (dv_load1 (b := b25) (o := 1) agt2 (T rfl rfl) H373 rfl) ?_
                       refine lw_vy (.pointer (some ⟨b35, 1, none⟩)) (d := 82) rfl rfl (congrArg Value.bool (decide_eq_true hb376)) (dv_fieldAddr (a := ⟨b35, 0, none⟩) (a' := ⟨b35, 1, none⟩) fo25_1 (T rfl rfl) rfl) ?_
                       refine lw_vy (.int .i64 zi13) (d := 82) rfl rfl (congrArg Value.bool (decide_eq_true hb376)) (dv_load1 (b := b35) (o := 1) agt2 (T rfl rfl) H83 rfl) ?_
                       refine lw_vy (.bool (decide (zi7 ≤ zi13))) (d := 82) rfl rfl (congrArg Value.bool (decide_eq_true hb376)) (dv_leq (a := zi7) (b := zi13) (T rfl rfl) (T rfl rfl)) ?_
                       refine lw_v (.bool (decide (zi7 ≤ zi13))) (dv_pick_t (T rfl (congrArg Value.bool (decide_eq_true hb376))) (T rfl rfl)) ?_
                       refine lw_v (.bool (decide (zi7 ≤ zi13))) (dv_assign (T rfl rfl)) ?_
                       refine lw_nil ?_
                       exact hj88 _ _ ⟨(decide (zi7 ≤ zi13)), rfl, rfl, rfl, rfl, rfl, rfl, E80, H373, H82, H83, (by unfold inB; first | (simp; omega) | (rw [decide_eq_true_iff]; omega) | omega)⟩
                     · refine lw_no (d := 82) rfl rfl (congrArg Value.bool (decide_eq_false hb376)) ?_
                       refine lw_no (d := 82) rfl rfl (congrArg Value.bool (decide_eq_false hb376)) ?_
                       refine lw_no (d := 82) rfl rfl (congrArg Value.bool (decide_eq_false hb376)) ?_
                       refine lw_no (d := 82) rfl rfl (congrArg Value.bool (decide_eq_false hb376)) ?_
                       refine lw_no (d := 82) rfl rfl (congrArg Value.bool (decide_eq_false hb376)) ?_
                       refine lw_no (d := 82) rfl rfl (congrArg Value.bool (decide_eq_false hb376)) ?_
                       refine lw_v (.bool false) (dv_pick_f (T rfl (congrArg Value.bool (decide_eq_false hb376))) C) ?_
                       refine lw_v (.bool false) (dv_assign (T rfl rfl)) ?_
                       refine lw_nil ?_
                       exact hj88 _ _ ⟨false, rfl, rfl, rfl, rfl, rfl, rfl, E80, H373, H82, H83, (by unfold inB; first | (simp; omega) | (rw [decide_eq_true_iff]; omega) | omega)⟩
                   · refine lw_no (d := 74) rfl rfl (congrArg Value.bool (decide_eq_false hb375)) ?_
                     refine lw_no (d := 74) rfl rfl (congrArg Value.bool (decide_eq_false hb375)) ?_
                     refine lw_no (d := 74) rfl rfl (congrArg Value.bool (decide_eq_false hb375)) ?_
                     refine lw_no (d := 74) rfl rfl (congrArg Value.bool (decide_eq_false hb375)) ?_
                     refine lw_no (d := 74) rfl rfl (congrArg Value.bool (decide_eq_false hb375)) ?_
                     refine lw_no (d := 74) rfl rfl (congrArg Value.bool (decide_eq_false hb375)) ?_
                     refine lw_v (.bool false) (dv_pick_f (T rfl (congrArg Value.bool (decide_eq_false hb375))) C) ?_
                     refine lw_v (.bool false) (dv_move (T rfl rfl)) ?_
                     refine lw_no (d := 82) rfl rfl (rfl) ?_
                     refine lw_no (d := 82) rfl rfl (rfl) ?_
                     refine lw_no (d := 82) rfl rfl (rfl) ?_
                     refine lw_no (d := 82) rfl rfl (rfl) ?_
                     refine lw_no (d := 82) rfl rfl (rfl) ?_
                     refine lw_no (d := 82) rfl rfl (rfl) ?_
                     refine lw_v (.bool false) (dv_pick_f (T rfl rfl) C) ?_
                     refine lw_v (.bool false) (dv_assign (T rfl rfl)) ?_
                     refine lw_nil ?_
                     exact hj88 _ _ ⟨false, rfl, rfl, rfl, rfl, rfl, rfl, E80, H373, H82, H83, (by unfold inB; first | (simp; omega) | (rw [decide_eq_true_iff]; omega) | omega)⟩
                 · refine lw_no (d := 66) rfl rfl (congrArg Value.bool (decide_eq_false hb374)) ?_
                   refine lw_no (d := 66) rfl rfl (congrArg Value.bool (decide_eq_false hb374)) ?_
                   refine lw_no (d := 66) rfl rfl (congrArg Value.bool (decide_eq_false hb374)) ?_
                   refine lw_no (d := 66) rfl rfl (congrArg Value.bool (decide_eq_false hb374)) ?_
                   refine lw_no (d := 66) rfl rfl (congrArg Value.bool (decide_eq_false hb374)) ?_
                   refine lw_no (d := 66) rfl rfl (congrArg Value.bool (decide_eq_false hb374)) ?_
                   refine lw_v (.bool false) (dv_pick_f (T rfl (congrArg Value.bool (decide_eq_false hb374))) C) ?_
                   refine lw_v (.bool false) (dv_move (T rfl rfl)) ?_
                   refine lw_no (d := 74) rfl rfl (rfl) ?_
                   refine lw_no (d := 74) rfl rfl (rfl) ?_
                   refine lw_no (d := 74) rfl rfl (rfl) ?_
                   refine lw_no (d := 74) rfl rfl (rfl) ?_
                   refine lw_no (d := 74) rfl rfl (rfl) ?_
                   refine lw_no (d := 74) rfl rfl (rfl) ?_
                   refine lw_v (.bool false) (dv_pick_f (T rfl rfl) C) ?_
                   refine lw_v (.bool false) (dv_move (T rfl rfl)) ?_
                   refine lw_no (d := 82) rfl rfl (rfl) ?_
                   refine lw_no (d := 82) rfl rfl (rfl) ?_
                   refine lw_no (d := 82) rfl rfl (rfl) ?_
                   refine lw_no (d := 82) rfl rfl (rfl) ?_
                   refine lw_no (d := 82) rfl rfl (rfl) ?_
                   refine lw_no (d := 82) rfl rfl (rfl) ?_
                   refine lw_v (.bool false) (dv_pick_f (T rfl rfl) C) ?_
                   refine lw_v (.bool false) (dv_assign (T rfl rfl)) ?_
                   refine lw_nil ?_
                   exact hj88 _ _ ⟨false, rfl, rfl, rfl, rfl, rfl, rfl, E80, H373, H82, H83, (by unfold inB; first | (simp; omega) | (rw [decide_eq_true_iff]; omega) | omega)⟩
         · refine lw_no (d := 46) rfl rfl (congrArg Value.bool (decide_eq_true hb81)) ?_
           refine lw_no (d := 46) rfl rfl (congrArg Value.bool (decide_eq_true hb81)) ?_
           refine lw_no (d := 46) rfl rfl (congrArg Value.bool (decide_eq_true hb81)) ?_
           refine lw_no (d := 46) rfl rfl (congrArg Value.bool (decide_eq_true hb81)) ?_
           refine lw_no (d := 46) rfl rfl (congrArg Value.bool (decide_eq_true hb81)) ?_
           refine lw_v (.bool true) (dv_pick_t (T rfl (congrArg Value.bool (decide_eq_true hb81))) C) ?_
           refine lw_v (.bool true) (dv_move (T rfl rfl)) ?_
           refine lw_no (d := 53) rfl rfl (rfl) ?_
           refine lw_no (d := 53) rfl rfl (rfl) ?_
           refine lw_no (d := 53) rfl rfl (rfl) ?_
           refine lw_no (d := 53) rfl rfl (rfl) ?_
           refine lw_no (d := 53) rfl rfl (rfl) ?_
           refine lw_v (.bool true) (dv_pick_t (T rfl rfl) C) ?_
           refine lw_nil ?_
           refine rk_ct (T rfl rfl) ?_
           refine rk_seq ?_
           refine rk_reg ?_
           refine lw_v (.bool true) (dv_assign C) ?_
           refine lw_nil ?_
           refine rk_ret Try.func3 (v := .bool true) (res1 Try.results3 (rv_tmp rfl rfl)) ⟨_, rfl, ?_⟩
           exact ⟨rfl, E80⟩
       · refine lw_no (d := 41) rfl rfl (congrArg Value.bool (decide_eq_true hb76)) ?_
         refine lw_no (d := 41) rfl rfl (congrArg Value.bool (decide_eq_true hb76)) ?_
         refine lw_no (d := 41) rfl rfl (congrArg Value.bool (decide_eq_true hb76)) ?_
         refine lw_v (.bool true) (dv_pick_t (T rfl (congrArg Value.bool (decide_eq_true hb76))) C) ?_
         refine lw_v (.bool true) (dv_move (T rfl rfl)) ?_
         refine lw_no (d := 46) rfl rfl (rfl) ?_
         refine lw_no (d := 46) rfl rfl (rfl) ?_
         refine lw_no (d := 46) rfl rfl (rfl) ?_
         refine lw_no (d := 46) rfl rfl (rfl) ?_
         refine lw_no (d := 46) rfl rfl (rfl) ?_
         refine lw_v (.bool true) (dv_pick_t (T rfl rfl) C) ?_
         refine lw_v (.bool true) (dv_move (T rfl rfl)) ?_
         refine lw_no (d := 53) rfl rfl (rfl) ?_
         refine lw_no (d := 53) rfl rfl (rfl) ?_
         refine lw_no (d := 53) rfl rfl (rfl) ?_
         refine lw_no (d := 53) rfl rfl (rfl) ?_
         refine lw_no (d := 53) rfl rfl (rfl) ?_
         refine lw_v (.bool true) (dv_pick_t (T rfl rfl) C) ?_
         refine lw_nil ?_
         refine rk_ct (T rfl rfl) ?_
         refine rk_seq ?_
         refine rk_reg ?_
         refine lw_v (.bool true) (dv_assign C) ?_
         refine lw_nil ?_
         refine rk_ret Try.func3 (v := .bool true) (res1 Try.results3 (rv_tmp rfl rfl)) ⟨_, rfl, ?_⟩
         exact ⟨rfl, E75⟩
     · refine lw_no (d := 36) rfl rfl (congrArg Value.bool (decide_eq_true hb71)) ?_
       refine lw_no (d := 36) rfl rfl (congrArg Value.bool (decide_eq_true hb71)) ?_
       refine lw_no (d := 36) rfl rfl (congrArg Value.bool (decide_eq_true hb71)) ?_
       refine lw_v (.bool true) (dv_pick_t (T rfl (congrArg Value.bool (decide_eq_true hb71))) C) ?_
       refine lw_v (.bool true) (dv_move (T rfl rfl)) ?_
       refine lw_no (d := 41) rfl rfl (rfl) ?_
       refine lw_no (d := 41) rfl rfl (rfl) ?_
       refine lw_no (d := 41) rfl rfl (rfl) ?_
       refine lw_v (.bool true) (dv_pick_t (T rfl rfl) C) ?_
       refine lw_v (.bool true) (dv_move (T rfl rfl)) ?_
       refine lw_no (d := 46) rfl rfl (rfl) ?_
       refine lw_no (d := 46) rfl rfl (rfl) ?_
       refine lw_no (d := 46) rfl rfl (rfl) ?_
       refine lw_no (d := 46) rfl rfl (rfl) ?_
       refine lw_no (d := 46) rfl rfl (rfl) ?_
       refine lw_v (.bool true) (dv_pick_t (T rfl rfl) C) ?_
       refine lw_v (.bool true) (dv_move (T rfl rfl)) ?_
       refine lw_no (d := 53) rfl rfl (rfl) ?_
       refine lw_no (d := 53) rfl rfl (rfl) ?_
       refine lw_no (d := 53) rfl rfl (rfl) ?_
       refine lw_no (d := 53) rfl rfl (rfl) ?_
       refine lw_no (d := 53) rfl rfl (rfl) ?_
       refine lw_v (.bool true) (dv_pick_t (T rfl rfl) C) ?_
       refine lw_nil ?_
       refine rk_ct (T rfl rfl) ?_
       refine rk_seq ?_
       refine rk_reg ?_
       refine lw_v (.bool true) (dv_assign C) ?_
       refine lw_nil ?_
       refine rk_ret Try.func3 (v := .bool true) (res1 Try.results3 (rv_tmp rfl rfl)) ⟨_, rfl, ?_⟩
       exact ⟨rfl, E70⟩
end Go.Proofs.Ytmbpomcbdopgnaa.W
