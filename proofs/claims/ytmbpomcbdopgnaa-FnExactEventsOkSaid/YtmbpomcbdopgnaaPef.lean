/- Walks and plain mathematics, packed by a program of this session: declarations that the rows reach. -/
import Derived.Test.YtmbpomcbdopgnaaPee
set_option linter.unusedVariables false
set_option linter.unusedSimpArgs false
namespace Go.Proofs.Ytmbpomcbdopgnaa.W
open Go Go.RowKit Go.Proofs.Ytmbpomcbdopgnaa.Fw
attribute [local irreducible] RunK LW AW DV OE Ct
theorem co50 : callOk Try.prog 50 = true := by kernel_rfl
theorem co51 : callOk Try.prog 51 = true := by kernel_rfl
theorem co55 : callOk Try.prog 55 = true := by kernel_rfl
theorem co56 : callOk Try.prog 56 = true := by kernel_rfl
theorem co57 : callOk Try.prog 57 = true := by kernel_rfl
set_option maxHeartbeats 1000000 in
theorem rise_ok {w : World} {A : Option Addr} {l c : Nat} {xs : List Int} (hx : RdI w .i64 A xs) (hxl : xs.length = l) (hxb : l ≤ 1048576) : Ct Try.prog 56 [.slice A l c, .int .i64 0, .int .i64 39] w fun v w1 => v = .bool (decide (riseP xs)) ∧ Ext w w1 := by
 refine ct_run (n := 35) Try.func56 rfl Try.ntmps56 rfl ?_
 have E0 : Below w.heap.size w w := Below.refl _ _
 refine rk_seq ?_
 refine rk_reg ?_
 refine lw_v (.bool false) (dv_assign C) ?_
 refine lw_nil ?_
 refine rk_seq ?_
 refine rk_seq ?_
 refine rk_reg ?_
 refine lw_v (.slice A l c) (dv_move (T rfl rfl)) ?_
 refine lw_v (.int .i64 ((l : Int))) (dv_len (ad := A) (l := l) (c := c) us50 (T rfl rfl)) ?_
 refine lw_v (.int .i64 0) (dv_move C) ?_
 refine lw_nil ?_
 refine rk_block ?_
 refine rk_loop (fun dm_ fr wl => ∃ (i : Nat), dm_ = l - i ∧ fr 0 = .slice A l c ∧ fr 1 = .int .i64 0 ∧ fr 2 = .int .i64 39 ∧ fr 9 = .slice A l c ∧ fr 10 = .int .i64 ((l : Int)) ∧ fr 11 = .int .i64 ((i : Int)) ∧ Below w.heap.size w wl ∧ (i ≤ l) ∧ (∀ k, k < i → riseAt xs k)) (l - 0) ⟨0, rfl, rfl, rfl, rfl, rfl, rfl, (vi (by omega)), E0, (Nat.zero_le _), (fun k hk => absurd hk (by omega))⟩ ?_
 intro d5 fr4 w1 hI2 ih3
 obtain ⟨i, hd13, f6, f7, f8, f9, f10, f11, E12, hi, hall⟩ := hI2
 refine rk_seq ?_
 refine rk_reg ?_
 refine lw_v (.bool (decide (((i : Int)) < ((l : Int))))) (dv_lss (a := (i : Int)) (b := (l : Int)) (T rfl f11) (T rfl f10)) ?_
 refine lw_nil ?_
 refine rk_seq ?_
 by_cases hb14 : ((i : Int)) < ((l : Int))
 · refine rk_ct (T rfl (congrArg Value.bool (decide_eq_true hb14))) ?_
   refine rk_skip ?_
   refine rk_seq ?_
   refine rk_block ?_
   refine rk_seq ?_
   refine rk_reg ?_
   refine lw_v (.int .i64 ((i : Int))) (dv_move (T rfl f11)) ?_
   have h15 := (hx.ext E12)
   obtain ⟨g16, o17, rfl⟩ := RdI.at h15 (by first | omega | (simp; done) | (simp; omega))
   refine lw_v (.pointer (some ⟨g16, o17 + i, none⟩)) (dv_indexW (g := g16) (o := o17) (l := l) (c := c) (i := i) (j := (i : Int)) us50 sz2 (T rfl f9) (T rfl f11) (by omega) (by first | omega | (simp; done) | (simp; omega))) ?_
   refine lw_v (.int .i64 (xs.getD i 0)) (dv_load agt2 (T rfl rfl) (RdI.cell h15 (by first | omega | (simp; done) | (simp; omega)))) ?_
   refine lw_v (.int .i64 ((i : Int))) (dv_assign (T rfl rfl)) ?_
   refine lw_v (.int .i64 (xs.getD i 0)) (dv_assign (T rfl rfl)) ?_
   refine lw_nil ?_
   refine rk_seq ?_
   refine rk_reg ?_
   refine lw_v (.int .i64 (xs.getD i 0)) (dv_move (T rfl rfl)) ?_
   refine lw_v (.int .i64 0) (dv_move (T rfl f7)) ?_
   refine lw_v (.int .i64 39) (dv_move (T rfl f8)) ?_
   refine lw_e (oe_callf (vs := [.int .i64 (xs.getD i 0), .int .i64 0, .int .i64 39]) co46 (ar3 (T rfl rfl) (T rfl rfl) (T rfl rfl)) (within_ok (n := xs.getD i 0) (lo := 0) (hi := 39)  ) ?_)
   rintro _ w18 ⟨rfl, e19⟩
   have E20 := below_ext E12 E12.size e19
   refine lw_v (.bool (decide (¬ ((0 : Int) ≤ (xs.getD i 0) ∧ (xs.getD i 0) ≤ (39 : Int))))) (dv_notd (p := (0 : Int) ≤ (xs.getD i 0) ∧ (xs.getD i 0) ≤ (39 : Int)) (T rfl rfl)) ?_
   refine lw_v (.bool (decide (¬ ((0 : Int) ≤ (xs.getD i 0) ∧ (xs.getD i 0) ≤ (39 : Int))))) (dv_move (T rfl rfl)) ?_
   by_cases hb21 : (0 : Int) ≤ (xs.getD i 0) ∧ (xs.getD i 0) ≤ (39 : Int)
   · refine lw_vy (.int .i64 ((i : Int))) (d := 21) rfl rfl (congrArg Value.bool (decide_eq_false (not_not_intro hb21))) (dv_move (T rfl rfl)) ?_
     refine lw_vy (.bool (decide (0 < ((i : Int))))) (d := 21) rfl rfl (congrArg Value.bool (decide_eq_false (not_not_intro hb21))) (dv_gtr (a := (i : Int)) (b := 0) (T rfl rfl) C) ?_
     refine lw_vy (.bool (decide (0 < ((i : Int))))) (d := 21) rfl rfl (congrArg Value.bool (decide_eq_false (not_not_intro hb21))) (dv_move (T rfl rfl)) ?_
     by_cases hb22 : 0 < ((i : Int))
     · refine lw_vy (.int .i64 (xs.getD i 0)) (d := 24) rfl rfl (congrArg Value.bool (decide_eq_true hb22)) (dv_move (T rfl rfl)) ?_
       refine lw_vy (.slice (some ⟨g16, o17, none⟩) l c) (d := 24) rfl rfl (congrArg Value.bool (decide_eq_true hb22)) (dv_move (T rfl f6)) ?_
       refine lw_vy (.int .i64 ((i : Int))) (d := 24) rfl rfl (congrArg Value.bool (decide_eq_true hb22)) (dv_move (T rfl rfl)) ?_
       refine lw_vy (.int .i64 (((i : Int)) - 1)) (d := 24) rfl rfl (congrArg Value.bool (decide_eq_true hb22)) (dv_sub (a := (i : Int)) (b := 1) (z := ((i : Int)) - 1) (T rfl rfl) C (wr_i64 (by omega) (by omega))) ?_
       refine lw_vy (.pointer (some ⟨g16, o17 + ((i) - 1), none⟩)) (d := 24) rfl rfl (congrArg Value.bool (decide_eq_true hb22)) (dv_indexW (g := g16) (o := o17) (l := l) (c := c) (i := ((i) - 1)) (j := ((i : Int)) - 1) us50 sz2 (T rfl rfl) (T rfl rfl) (by omega) (by first | omega | (simp; done) | (simp; omega))) ?_
       have h23 := (h15.ext e19)
       refine lw_vy (.int .i64 (xs.getD (((i) - 1)) 0)) (d := 24) rfl rfl (congrArg Value.bool (decide_eq_true hb22)) (dv_load agt2 (T rfl rfl) (RdI.cell h23 (by first | omega | (simp; done) | (simp; omega)))) ?_
       refine lw_vy (.bool (decide ((xs.getD i 0) ≤ (xs.getD (((i) - 1)) 0)))) (d := 24) rfl rfl (congrArg Value.bool (decide_eq_true hb22)) (dv_leq (a := xs.getD i 0) (b := xs.getD (((i) - 1)) 0) (T rfl rfl) (T rfl rfl)) ?_
       refine lw_vy (.bool (decide ((xs.getD i 0) ≤ (xs.getD (((i) - 1)) 0)))) (d := 21) rfl rfl (congrArg Value.bool (decide_eq_false (not_not_intro hb21))) (dv_pick_t (T rfl (congrArg Value.bool (decide_eq_true hb22))) (T rfl rfl)) ?_
       refine lw_v (.bool (decide ((xs.getD i 0) ≤ (xs.getD (((i) - 1)) 0)))) (dv_pick_f (T rfl (congrArg Value.bool (decide_eq_false (not_not_intro hb21)))) (T rfl rfl)) ?_
       refine lw_nil ?_
       by_cases hb24 : (xs.getD i 0) ≤ (xs.getD (((i) - 1)) 0)
       · refine rk_ct (T rfl (congrArg Value.bool (decide_eq_true hb24))) ?_
         refine rk_seq ?_
         refine rk_reg ?_
         refine lw_v (.bool false) (dv_assign C) ?_
         refine lw_nil ?_
         refine rk_ret Try.func56 (v := .bool false) (res1 Try.results56 (rv_tmp rfl rfl)) ⟨_, rfl, ?_⟩
         exact ⟨(vf (fun hh_ => by have hh := hh_ i (by omega); first | exact absurd hh.1 (by assumption) | (have h2_ := hh.2 (by omega); omega) | (have h1_ := hh.1; omega))), E20⟩
       · refine rk_cf (T rfl (congrArg Value.bool (decide_eq_false hb24))) ?_
         refine rk_skip ?_
         refine rk_inBlock ?_
         refine rk_reg ?_
         refine lw_v (.int .i64 (((i : Int)) + 1)) (dv_add (a := (i : Int)) (b := 1) (z := ((i : Int)) + 1) (T rfl f11) C (wr_i64 (by omega) (by omega))) ?_
         refine lw_v (.int .i64 (((i : Int)) + 1)) (dv_move (T rfl rfl)) ?_
         refine lw_nil ?_
         exact ih3 (l - ((i + 1))) _ _ (by rw [hd13]; omega) ⟨(i + 1), rfl, f6, f7, f8, f9, f10, (vi (by omega)), E20, (by omega), (all_step hall ⟨(by first | assumption | exact Decidable.not_not.1 (by assumption)), fun h0_ => by first | omega | (exfalso; omega)⟩)⟩
     · refine lw_no (d := 24) rfl rfl (congrArg Value.bool (decide_eq_false hb22)) ?_
       refine lw_no (d := 24) rfl rfl (congrArg Value.bool (decide_eq_false hb22)) ?_
       refine lw_no (d := 24) rfl rfl (congrArg Value.bool (decide_eq_false hb22)) ?_
       refine lw_no (d := 24) rfl rfl (congrArg Value.bool (decide_eq_false hb22)) ?_
       refine lw_no (d := 24) rfl rfl (congrArg Value.bool (decide_eq_false hb22)) ?_
       refine lw_no (d := 24) rfl rfl (congrArg Value.bool (decide_eq_false hb22)) ?_
       refine lw_no (d := 24) rfl rfl (congrArg Value.bool (decide_eq_false hb22)) ?_
       refine lw_vy (.bool false) (d := 21) rfl rfl (congrArg Value.bool (decide_eq_false (not_not_intro hb21))) (dv_pick_f (T rfl (congrArg Value.bool (decide_eq_false hb22))) C) ?_
       refine lw_v (.bool false) (dv_pick_f (T rfl (congrArg Value.bool (decide_eq_false (not_not_intro hb21)))) (T rfl rfl)) ?_
       refine lw_nil ?_
       refine rk_cf (T rfl rfl) ?_
       refine rk_skip ?_
       refine rk_inBlock ?_
       refine rk_reg ?_
       refine lw_v (.int .i64 (((i : Int)) + 1)) (dv_add (a := (i : Int)) (b := 1) (z := ((i : Int)) + 1) (T rfl f11) C (wr_i64 (by omega) (by omega))) ?_
       refine lw_v (.int .i64 (((i : Int)) + 1)) (dv_move (T rfl rfl)) ?_
       refine lw_nil ?_
       exact ih3 (l - ((i + 1))) _ _ (by rw [hd13]; omega) ⟨(i + 1), rfl, f6, f7, f8, f9, f10, (vi (by omega)), E20, (by omega), (all_step hall ⟨(by first | assumption | exact Decidable.not_not.1 (by assumption)), fun h0_ => by first | omega | (exfalso; omega)⟩)⟩
   · refine lw_no (d := 21) rfl rfl (congrArg Value.bool (decide_eq_true hb21)) ?_
     refine lw_no (d := 21) rfl rfl (congrArg Value.bool (decide_eq_true hb21)) ?_
     refine lw_no (d := 21) rfl rfl (congrArg Value.bool (decide_eq_true hb21)) ?_
     refine lw_nou (d := 24) rfl rfl ?_
     refine lw_nou (d := 24) rfl rfl ?_
     refine lw_nou (d := 24) rfl rfl ?_
     refine lw_nou (d := 24) rfl rfl ?_
     refine lw_nou (d := 24) rfl rfl ?_
     refine lw_nou (d := 24) rfl rfl ?_
     refine lw_nou (d := 24) rfl rfl ?_
     refine lw_no (d := 21) rfl rfl (congrArg Value.bool (decide_eq_true hb21)) ?_
     refine lw_v (.bool true) (dv_pick_t (T rfl (congrArg Value.bool (decide_eq_true hb21))) C) ?_
     refine lw_nil ?_
     refine rk_ct (T rfl rfl) ?_
     refine rk_seq ?_
     refine rk_reg ?_
     refine lw_v (.bool false) (dv_assign C) ?_
     refine lw_nil ?_
     refine rk_ret Try.func56 (v := .bool false) (res1 Try.results56 (rv_tmp rfl rfl)) ⟨_, rfl, ?_⟩
     exact ⟨(vf (fun hh_ => by have hh := hh_ i (by omega); first | exact absurd hh.1 (by assumption) | (have h2_ := hh.2 (by omega); omega) | (have h1_ := hh.1; omega))), E20⟩
 · refine rk_cf (T rfl (congrArg Value.bool (decide_eq_false hb14))) ?_
   refine rk_exit rfl ?_
   refine rk_seq ?_
   refine rk_reg ?_
   refine lw_v (.bool true) (dv_assign C) ?_
   refine lw_nil ?_
   refine rk_ret Try.func56 (v := .bool true) (res1 Try.results56 (rv_tmp rfl rfl)) ⟨_, rfl, ?_⟩
   exact ⟨(vt (fun k hk => hall k (by omega))), E12⟩
set_option maxHeartbeats 1000000 in
theorem iEventsOk_ok {w : World} {A : Option Addr} {l c : Nat} {Q : Nat → Ev} {SL : SlF} {lo hi : Nat} (hx : NR w lo hi A l (fun i_ => evW (Q i_)) (fun i_ => (Q i_).es) SL) (hxb : l ≤ 1048576) (hxf : evF l Q) : Ct Try.prog 18 [.slice A l c] w fun v w1 => v = .bool (decide (evsOk l Q)) ∧ Ext w w1 := by
 refine ct_run (n := 48) Try.func18 rfl Try.ntmps18 rfl ?_
 have E0 : Below w.heap.size w w := Below.refl _ _
 have hhi := hx.lh
 refine rk_seq ?_
 refine rk_reg ?_
 refine lw_v (.bool false) (dv_assign C) ?_
 refine lw_nil ?_
 refine rk_seq ?_
 refine rk_seq ?_
 refine rk_reg ?_
 refine lw_v (.slice A l c) (dv_move (T rfl rfl)) ?_
 refine lw_v (.int .i64 ((l : Int))) (dv_len (ad := A) (l := l) (c := c) us46 (T rfl rfl)) ?_
 refine lw_v (.bool (decide (200 < ((l : Int))))) (dv_gtr (a := (l : Int)) (b := 200) (T rfl rfl) C) ?_
 refine lw_nil ?_
 by_cases hb1 : 200 < ((l : Int))
 · refine rk_ct (T rfl (congrArg Value.bool (decide_eq_true hb1))) ?_
   refine rk_seq ?_
   refine rk_reg ?_
   refine lw_v (.bool false) (dv_assign C) ?_
   refine lw_nil ?_
   refine rk_ret Try.func18 (v := .bool false) (res1 Try.results18 (rv_tmp rfl rfl)) ⟨_, rfl, ?_⟩
   exact ⟨(vf (fun hh => by have h_ := hh.1; omega)), E0⟩
 · refine rk_cf (T rfl (congrArg Value.bool (decide_eq_false hb1))) ?_
   refine rk_skip ?_
   refine rk_seq ?_
   refine rk_seq ?_
   refine rk_reg ?_
   refine lw_v (.slice A l c) (dv_move (T rfl rfl)) ?_
   refine lw_v (.int .i64 ((l : Int))) (dv_len (ad := A) (l := l) (c := c) us46 (T rfl rfl)) ?_
   refine lw_v (.int .i64 0) (dv_move C) ?_
   refine lw_nil ?_
   refine rk_block ?_
   refine rk_loop (fun dm_ fr wl => ∃ (i : Nat), dm_ = l - i ∧ fr 0 = .slice A l c ∧ fr 8 = .slice A l c ∧ fr 9 = .int .i64 ((l : Int)) ∧ fr 10 = .int .i64 ((i : Int)) ∧ Below w.heap.size w wl ∧ (i ≤ l) ∧ (∀ k, k < i → evOkAt Q k)) (l - 0) ⟨0, rfl, rfl, rfl, rfl, (vi (by omega)), E0, (Nat.zero_le _), (fun k hk => absurd hk (by omega))⟩ ?_
   intro d6 fr5 w2 hI3 ih4
   obtain ⟨i, hd12, f7, f8, f9, f10, E11, hi_, hall⟩ := hI3
   obtain ⟨As13, hAs15⟩ : ∃ q_ : Option Addr, q_ = (SL i).1 := ⟨_, rfl⟩
   obtain ⟨cs14, hcs16⟩ : ∃ q_ : Nat, q_ = (SL i).2 := ⟨_, rfl⟩
   have hen : i < l → (Q i).es.length ≤ 1048576 := fun h_ => evF.n hxf h_
   refine rk_seq ?_
   refine rk_reg ?_
   refine lw_v (.bool (decide (((i : Int)) < ((l : Int))))) (dv_lss (a := (i : Int)) (b := (l : Int)) (T rfl f10) (T rfl f9)) ?_
   refine lw_nil ?_
   refine rk_seq ?_
   by_cases hb17 : ((i : Int)) < ((l : Int))
   · refine rk_ct (T rfl (congrArg Value.bool (decide_eq_true hb17))) ?_
     refine rk_skip ?_
     refine rk_seq ?_
     refine rk_block ?_
     refine rk_seq ?_
     refine rk_reg ?_
     refine lw_v (.int .i64 ((i : Int))) (dv_move (T rfl f10)) ?_
     have h20 := (hx.ext E11)
     obtain ⟨g18, o19, rfl⟩ := NR.at h20 (by first | omega | (simp; done) | (simp; omega))
     refine lw_v (.pointer (some ⟨g18, o19 + i * 13, none⟩)) (dv_indexM (g := g18) (o := o19) (l := l) (c := c) (i := i) (j := (i : Int)) (m := 13) us46 sz52 (T rfl f8) (T rfl f10) (by omega) (by first | omega | (simp; done) | (simp; omega))) ?_
     refine lw_v (.agg #[.int .u64 (wv3 ((Q i).x)), .int .u64 (wv2 ((Q i).x)), .int .u64 (wv1 ((Q i).x)), .int .u64 (wv0 ((Q i).x)), .int .u64 (wv3 ((Q i).y)), .int .u64 (wv2 ((Q i).y)), .int .u64 (wv1 ((Q i).y)), .int .u64 (wv0 ((Q i).y)), .int .u64 (wv3 ((Q i).u)), .int .u64 (wv2 ((Q i).u)), .int .u64 (wv1 ((Q i).u)), .int .u64 (wv0 ((Q i).u)), .slice As13 ((Q i).es.length) cs14]) (dv_loadsR (l := [.int .u64 (wv3 ((Q i).x)), .int .u64 (wv2 ((Q i).x)), .int .u64 (wv1 ((Q i).x)), .int .u64 (wv0 ((Q i).x)), .int .u64 (wv3 ((Q i).y)), .int .u64 (wv2 ((Q i).y)), .int .u64 (wv1 ((Q i).y)), .int .u64 (wv0 ((Q i).y)), .int .u64 (wv3 ((Q i).u)), .int .u64 (wv2 ((Q i).u)), .int .u64 (wv1 ((Q i).u)), .int .u64 (wv0 ((Q i).u)), .slice As13 ((Q i).es.length) cs14]) agt52 sz52 (T rfl rfl) rfl (NR.evA (i := i) h20 (by first | omega | (simp; done) | (simp; omega)) hAs15 hcs16)) ?_
     refine lw_e (oe_alloc ze52 ?_)
     intro b21 w22 n23
     have N24 : w.heap.size ≤ b21 := n23.eq ▸ E11.size
     have E25 := below_ext E11 E11.size n23.ext
     refine lw_v (.int .i64 ((i : Int))) (dv_assign (T rfl rfl)) ?_
     refine lw_e (oe_store (v := .agg #[.int .u64 (wv3 ((Q i).x)), .int .u64 (wv2 ((Q i).x)), .int .u64 (wv1 ((Q i).x)), .int .u64 (wv0 ((Q i).x)), .int .u64 (wv3 ((Q i).y)), .int .u64 (wv2 ((Q i).y)), .int .u64 (wv1 ((Q i).y)), .int .u64 (wv0 ((Q i).y)), .int .u64 (wv3 ((Q i).u)), .int .u64 (wv2 ((Q i).u)), .int .u64 (wv1 ((Q i).u)), .int .u64 (wv0 ((Q i).u)), .slice As13 ((Q i).es.length) cs14]) (vs := [.int .u64 (wv3 ((Q i).x)), .int .u64 (wv2 ((Q i).x)), .int .u64 (wv1 ((Q i).x)), .int .u64 (wv0 ((Q i).x)), .int .u64 (wv3 ((Q i).y)), .int .u64 (wv2 ((Q i).y)), .int .u64 (wv1 ((Q i).y)), .int .u64 (wv0 ((Q i).y)), .int .u64 (wv3 ((Q i).u)), .int .u64 (wv2 ((Q i).u)), .int .u64 (wv1 ((Q i).u)), .int .u64 (wv0 ((Q i).u)), .slice As13 ((Q i).es.length) cs14]) (l := [.int .u64 (wv3 ((Q i).x)), .int .u64 (wv2 ((Q i).x)), .int .u64 (wv1 ((Q i).x)), .int .u64 (wv0 ((Q i).x)), .int .u64 (wv3 ((Q i).y)), .int .u64 (wv2 ((Q i).y)), .int .u64 (wv1 ((Q i).y)), .int .u64 (wv0 ((Q i).y)), .int .u64 (wv3 ((Q i).u)), .int .u64 (wv2 ((Q i).u)), .int .u64 (wv1 ((Q i).u)), .int .u64 (wv0 ((Q i).u)), .slice As13 ((Q i).es.length) cs14]) (T rfl rfl) (T rfl rfl) sz52 rfl rfl rfl n23.blk rfl ?_)
     intro w26 s27 H28
     have E29 := below_st E25 N24 s27
     refine lw_nil ?_
     refine rk_seq ?_
     refine rk_any (fun w => w.heap[b21]? = some (.cells #[.int .u64 (wv3 ((Q i).x)), .int .u64 (wv2 ((Q i).x)), .int .u64 (wv1 ((Q i).x)), .int .u64 (wv0 ((Q i).x)), .int .u64 (wv3 ((Q i).y)), .int .u64 (wv2 ((Q i).y)), .int .u64 (wv1 ((Q i).y)), .int .u64 (wv0 ((Q i).y)), .int .u64 (wv3 ((Q i).u)), .int .u64 (wv2 ((Q i).u)), .int .u64 (wv1 ((Q i).u)), .int .u64 (wv0 ((Q i).u)), .slice As13 ((Q i).es.length) cs14] 52) ∧ NR w lo hi (some ⟨g18, o19, none⟩) l (fun i_ => evW (Q i_)) (fun i_ => (Q i_).es) SL) [] mo ?_
     intro w30 d31
     have E32 := below_ext E29 E29.size d31.ext
     have H33 := (d31.ext.blk H28)
     have h34 := (((h20.ext n23.ext).st s27 (by omega)).ext d31.ext)
     refine aw_pure 0 (.pointer (some ⟨b21, 0, none⟩)) rfl (by kernel_rfl) .none ⟨H33, h34⟩ (fun _ => dv_fieldAddr (a := ⟨b21, 0, none⟩) (a' := ⟨b21, 0, none⟩) fo52_0 (T rfl rfl) rfl) ?_
     refine aw_load 1 (.agg #[.int .u64 (wv3 ((Q i).x)), .int .u64 (wv2 ((Q i).x)), .int .u64 (wv1 ((Q i).x)), .int .u64 (wv0 ((Q i).x)), .int .u64 (wv3 ((Q i).y)), .int .u64 (wv2 ((Q i).y)), .int .u64 (wv1 ((Q i).y)), .int .u64 (wv0 ((Q i).y)), .int .u64 (wv3 ((Q i).u)), .int .u64 (wv2 ((Q i).u)), .int .u64 (wv1 ((Q i).u)), .int .u64 (wv0 ((Q i).u))]) rfl (by kernel_rfl) .none ⟨H33, h34⟩ (fun _ s => dv_loads (l := [.int .u64 (wv3 ((Q i).x)), .int .u64 (wv2 ((Q i).x)), .int .u64 (wv1 ((Q i).x)), .int .u64 (wv0 ((Q i).x)), .int .u64 (wv3 ((Q i).y)), .int .u64 (wv2 ((Q i).y)), .int .u64 (wv1 ((Q i).y)), .int .u64 (wv0 ((Q i).y)), .int .u64 (wv3 ((Q i).u)), .int .u64 (wv2 ((Q i).u)), .int .u64 (wv1 ((Q i).u)), .int .u64 (wv0 ((Q i).u))]) agt40 sz40 (T rfl rfl) s.1 rfl) ?_
     refine aw_one 2 rfl (by kernel_rfl) .none (oe_callf (vs := [.agg #[.int .u64 (wv3 ((Q i).x)), .int .u64 (wv2 ((Q i).x)), .int .u64 (wv1 ((Q i).x)), .int .u64 (wv0 ((Q i).x)), .int .u64 (wv3 ((Q i).y)), .int .u64 (wv2 ((Q i).y)), .int .u64 (wv1 ((Q i).y)), .int .u64 (wv0 ((Q i).y)), .int .u64 (wv3 ((Q i).u)), .int .u64 (wv2 ((Q i).u)), .int .u64 (wv1 ((Q i).u)), .int .u64 (wv0 ((Q i).u))]]) co55 (ar1 (T rfl rfl)) (iPointOk_ok (x := (Q i).x) (y := (Q i).y) (u := (Q i).u) (evF.x hxf (i := i) (by omega)) (evF.y hxf (i := i) (by omega)) (evF.u hxf (i := i) (by omega)) ) ?_)
     rintro _ w35 ⟨rfl, e36⟩
     have E37 := below_ext E32 E32.size e36
     have H38 := (e36.blk H33)
     have h39 := (h34.ext e36)
     refine ⟨.inr ⟨H38, h39⟩, ?_⟩
     refine aw_pure 3 (.bool (decide (¬ (pOk ((Q i).x) ((Q i).y) ((Q i).u))))) rfl (by kernel_rfl) .none ⟨H38, h39⟩ (fun _ => dv_notd (p := pOk ((Q i).x) ((Q i).y) ((Q i).u)) (T rfl rfl)) ?_
     refine aw_pure 4 (.bool (decide (¬ (pOk ((Q i).x) ((Q i).y) ((Q i).u))))) rfl (by kernel_rfl) .none ⟨H38, h39⟩ (fun _ => dv_move (T rfl rfl)) ?_
     by_cases hb40 : pOk ((Q i).x) ((Q i).y) ((Q i).u)
     · refine aw_pure 5 (.pointer (some ⟨b21, 12, none⟩)) rfl (by kernel_rfl) (.yes (d := 19) rfl rfl (congrArg Value.bool (decide_eq_false (not_not_intro hb40)))) ⟨H38, h39⟩ (fun _ => dv_fieldAddr (a := ⟨b21, 0, none⟩) (a' := ⟨b21, 12, none⟩) fo52_1 (T rfl rfl) rfl) ?_
       refine aw_load 6 (.slice As13 ((Q i).es.length) cs14) rfl (by kernel_rfl) (.yes (d := 19) rfl rfl (congrArg Value.bool (decide_eq_false (not_not_intro hb40)))) ⟨H38, h39⟩ (fun _ s => dv_load1 (b := b21) (o := 12) agt50 (T rfl rfl) s.1 rfl) ?_
       refine aw_pure 7 (.int .i64 (((Q i).es.length : Int))) rfl (by kernel_rfl) (.yes (d := 19) rfl rfl (congrArg Value.bool (decide_eq_false (not_not_intro hb40)))) ⟨H38, h39⟩ (fun _ => dv_len (ad := As13) (l := (Q i).es.length) (c := cs14) us50 (T rfl rfl)) ?_
       refine aw_pure 8 (.bool (decide ((((Q i).es.length : Int)) = 0))) rfl (by kernel_rfl) (.yes (d := 19) rfl rfl (congrArg Value.bool (decide_eq_false (not_not_intro hb40)))) ⟨H38, h39⟩ (fun _ => dv_eql (a := ((Q i).es.length : Int)) (b := 0) (T rfl rfl) C) ?_
       refine aw_pure 9 (.bool (decide ((((Q i).es.length : Int)) = 0))) rfl (by kernel_rfl) .none ⟨H38, h39⟩ (fun _ => dv_pick_f (T rfl (congrArg Value.bool (decide_eq_false (not_not_intro hb40)))) (T rfl rfl)) ?_
       refine aw_pure 10 (.bool (decide ((((Q i).es.length : Int)) = 0))) rfl (by kernel_rfl) .none ⟨H38, h39⟩ (fun _ => dv_move (T rfl rfl)) ?_
       by_cases hb41 : (((Q i).es.length : Int)) = 0
       · refine aw_no 11 rfl (by kernel_rfl) (d := 25) rfl rfl (congrArg Value.bool (decide_eq_true hb41)) ⟨H38, h39⟩ ?_
         refine aw_no 12 rfl (by kernel_rfl) (d := 25) rfl rfl (congrArg Value.bool (decide_eq_true hb41)) ⟨H38, h39⟩ ?_
         refine aw_no 13 rfl (by kernel_rfl) (d := 25) rfl rfl (congrArg Value.bool (decide_eq_true hb41)) ⟨H38, h39⟩ ?_
         refine aw_no 14 rfl (by kernel_rfl) (d := 25) rfl rfl (congrArg Value.bool (decide_eq_true hb41)) ⟨H38, h39⟩ ?_
         refine aw_pure 15 (.bool true) rfl (by kernel_rfl) .none ⟨H38, h39⟩ (fun _ => dv_pick_t (T rfl (congrArg Value.bool (decide_eq_true hb41))) C) ?_
         refine aw_pure 16 (.bool true) rfl (by kernel_rfl) .none ⟨H38, h39⟩ (fun _ => dv_move (T rfl rfl)) ?_
         refine aw_no 17 rfl (by kernel_rfl) (d := 31) rfl rfl (rfl) ⟨H38, h39⟩ ?_
         refine aw_no 18 rfl (by kernel_rfl) (d := 31) rfl rfl (rfl) ⟨H38, h39⟩ ?_
         refine aw_no 19 rfl (by kernel_rfl) (d := 31) rfl rfl (rfl) ⟨H38, h39⟩ ?_
         refine aw_nou 20 rfl (by kernel_rfl) (d := 34) rfl rfl ⟨H38, h39⟩ ?_
         refine aw_nou 21 rfl (by kernel_rfl) (d := 34) rfl rfl ⟨H38, h39⟩ ?_
         refine aw_nou 22 rfl (by kernel_rfl) (d := 34) rfl rfl ⟨H38, h39⟩ ?_
         refine aw_nou 23 rfl (by kernel_rfl) (d := 34) rfl rfl ⟨H38, h39⟩ ?_
         refine aw_nou 24 rfl (by kernel_rfl) (d := 34) rfl rfl ⟨H38, h39⟩ ?_
         refine aw_nou 25 rfl (by kernel_rfl) (d := 34) rfl rfl ⟨H38, h39⟩ ?_
         refine aw_nou 26 rfl (by kernel_rfl) (d := 34) rfl rfl ⟨H38, h39⟩ ?_
         refine aw_nou 27 rfl (by kernel_rfl) (d := 34) rfl rfl ⟨H38, h39⟩ ?_
         refine aw_nou 28 rfl (by kernel_rfl) (d := 34) rfl rfl ⟨H38, h39⟩ ?_
         refine aw_nou 29 rfl (by kernel_rfl) (d := 34) rfl rfl ⟨H38, h39⟩ ?_
         refine aw_no 30 rfl (by kernel_rfl) (d := 31) rfl rfl (rfl) ⟨H38, h39⟩ ?_
         refine aw_pure 31 (.bool true) rfl (by kernel_rfl) .none ⟨H38, h39⟩ (fun _ => dv_pick_t (T rfl rfl) C) ?_
         refine aw_done (by kernel_rfl) ?_
         refine rk_ct (T rfl rfl) ?_
         refine rk_seq ?_
         refine rk_reg ?_
         refine lw_v (.bool false) (dv_assign C) ?_
         refine lw_nil ?_
         refine rk_ret Try.func18 (v := .bool false) (res1 Try.results18 (rv_tmp rfl rfl)) ⟨_, rfl, ?_⟩
         exact ⟨(vf (fun hh_ => by have hh := hh_.2 i (by omega); first | exact absurd hh.1 (by assumption) | exact absurd hh.2.2.1 (by assumption) | (have h2_ := hh.2.1; omega) | (have h2_ := hh.2.2.2 (by omega); omega))), E37⟩
       · refine aw_pure 11 (.pointer (some ⟨b21, 12, none⟩)) rfl (by kernel_rfl) (.yes (d := 25) rfl rfl (congrArg Value.bool (decide_eq_false hb41))) ⟨H38, h39⟩ (fun _ => dv_fieldAddr (a := ⟨b21, 0, none⟩) (a' := ⟨b21, 12, none⟩) fo52_1 (T rfl rfl) rfl) ?_
         refine aw_load 12 (.slice As13 ((Q i).es.length) cs14) rfl (by kernel_rfl) (.yes (d := 25) rfl rfl (congrArg Value.bool (decide_eq_false hb41))) ⟨H38, h39⟩ (fun _ s => dv_load1 (b := b21) (o := 12) agt50 (T rfl rfl) s.1 rfl) ?_
         refine aw_one 13 rfl (by kernel_rfl) (.yes (d := 25) rfl rfl (congrArg Value.bool (decide_eq_false hb41))) (oe_callf (vs := [.slice As13 ((Q i).es.length) cs14, .int .i64 0, .int .i64 39]) co56 (ar3 (T rfl rfl) C C) (rise_ok (c := cs14) (xs := (Q i).es) (NR.rdA (i := i) h39 (by first | omega | (simp; done) | (simp; omega)) hAs15) (by first | rfl | omega) (by first | omega | (simp; done) | (simp; omega))) ?_)
         rintro _ w42 ⟨rfl, e43⟩
         have E44 := below_ext E37 E37.size e43
         have H45 := (e43.blk H38)
         have h46 := (h39.ext e43)
         refine ⟨.inr ⟨H45, h46⟩, ?_⟩
         refine aw_pure 14 (.bool (decide (¬ (riseP ((Q i).es))))) rfl (by kernel_rfl) (.yes (d := 25) rfl rfl (congrArg Value.bool (decide_eq_false hb41))) ⟨H45, h46⟩ (fun _ => dv_notd (p := riseP ((Q i).es)) (T rfl rfl)) ?_
         refine aw_pure 15 (.bool (decide (¬ (riseP ((Q i).es))))) rfl (by kernel_rfl) .none ⟨H45, h46⟩ (fun _ => dv_pick_f (T rfl (congrArg Value.bool (decide_eq_false hb41))) (T rfl rfl)) ?_
         refine aw_pure 16 (.bool (decide (¬ (riseP ((Q i).es))))) rfl (by kernel_rfl) .none ⟨H45, h46⟩ (fun _ => dv_move (T rfl rfl)) ?_
         by_cases hb47 : riseP ((Q i).es)
         · refine aw_pure 17 (.int .i64 ((i : Int))) rfl (by kernel_rfl) (.yes (d := 31) rfl rfl (congrArg Value.bool (decide_eq_false (not_not_intro hb47)))) ⟨H45, h46⟩ (fun _ => dv_move (T rfl rfl)) ?_
           refine aw_pure 18 (.bool (decide (0 < ((i : Int))))) rfl (by kernel_rfl) (.yes (d := 31) rfl rfl (congrArg Value.bool (decide_eq_false (not_not_intro hb47)))) ⟨H45, h46⟩ (fun _ => dv_gtr (a := (i : Int)) (b := 0) (T rfl rfl) C) ?_
           refine aw_pure 19 (.bool (decide (0 < ((i : Int))))) rfl (by kernel_rfl) (.yes (d := 31) rfl rfl (congrArg Value.bool (decide_eq_false (not_not_intro hb47)))) ⟨H45, h46⟩ (fun _ => dv_move (T rfl rfl)) ?_
           by_cases hb48 : 0 < ((i : Int))
           · refine aw_pure 20 (.slice (some ⟨g18, o19, none⟩) l c) rfl (by kernel_rfl) (.yes (d := 34) rfl rfl (congrArg Value.bool (decide_eq_true hb48))) ⟨H45, h46⟩ (fun _ => dv_move (T rfl f7)) ?_
             refine aw_pure 21 (.int .i64 ((i : Int))) rfl (by kernel_rfl) (.yes (d := 34) rfl rfl (congrArg Value.bool (decide_eq_true hb48))) ⟨H45, h46⟩ (fun _ => dv_move (T rfl rfl)) ?_
             refine aw_pure 22 (.int .i64 (((i : Int)) - 1)) rfl (by kernel_rfl) (.yes (d := 34) rfl rfl (congrArg Value.bool (decide_eq_true hb48))) ⟨H45, h46⟩ (fun _ => dv_sub (a := (i : Int)) (b := 1) (z := ((i : Int)) - 1) (T rfl rfl) C (wr_i64 (by omega) (by omega))) ?_
             refine aw_pure 23 (.pointer (some ⟨g18, o19 + (((i) - 1)) * 13, none⟩)) rfl (by kernel_rfl) (.yes (d := 34) rfl rfl (congrArg Value.bool (decide_eq_true hb48))) ⟨H45, h46⟩ (fun _ => dv_indexM (g := g18) (o := o19) (l := l) (c := c) (i := ((i) - 1)) (j := ((i : Int)) - 1) (m := 13) us46 sz52 (T rfl rfl) (T rfl rfl) (by omega) (by first | omega | (simp; done) | (simp; omega))) ?_
             refine aw_pure 24 (.pointer (some ⟨g18, o19 + ((((i) - 1)) * 13), none⟩)) rfl (by kernel_rfl) (.yes (d := 34) rfl rfl (congrArg Value.bool (decide_eq_true hb48))) ⟨H45, h46⟩ (fun _ => dv_fieldW (g := g18) (o := o19) (i := (((i) - 1)) * 13) fo52_0 (T rfl rfl)) ?_
             refine aw_load 25 (.agg #[.int .u64 (wv3 ((Q ((i) - 1)).x)), .int .u64 (wv2 ((Q ((i) - 1)).x)), .int .u64 (wv1 ((Q ((i) - 1)).x)), .int .u64 (wv0 ((Q ((i) - 1)).x)), .int .u64 (wv3 ((Q ((i) - 1)).y)), .int .u64 (wv2 ((Q ((i) - 1)).y)), .int .u64 (wv1 ((Q ((i) - 1)).y)), .int .u64 (wv0 ((Q ((i) - 1)).y)), .int .u64 (wv3 ((Q ((i) - 1)).u)), .int .u64 (wv2 ((Q ((i) - 1)).u)), .int .u64 (wv1 ((Q ((i) - 1)).u)), .int .u64 (wv0 ((Q ((i) - 1)).u))]) rfl (by kernel_rfl) (.yes (d := 34) rfl rfl (congrArg Value.bool (decide_eq_true hb48))) ⟨H45, h46⟩ (fun _ s => dv_loadsR (l := [.int .u64 (wv3 ((Q ((i) - 1)).x)), .int .u64 (wv2 ((Q ((i) - 1)).x)), .int .u64 (wv1 ((Q ((i) - 1)).x)), .int .u64 (wv0 ((Q ((i) - 1)).x)), .int .u64 (wv3 ((Q ((i) - 1)).y)), .int .u64 (wv2 ((Q ((i) - 1)).y)), .int .u64 (wv1 ((Q ((i) - 1)).y)), .int .u64 (wv0 ((Q ((i) - 1)).y)), .int .u64 (wv3 ((Q ((i) - 1)).u)), .int .u64 (wv2 ((Q ((i) - 1)).u)), .int .u64 (wv1 ((Q ((i) - 1)).u)), .int .u64 (wv0 ((Q ((i) - 1)).u))]) agt40 sz40 (T rfl rfl) rfl (NR.pt (i := (i) - 1) s.2 (by first | omega | (simp; done) | (simp; omega)))) ?_
             refine aw_pure 26 (.pointer (some ⟨b21, 0, none⟩)) rfl (by kernel_rfl) (.yes (d := 34) rfl rfl (congrArg Value.bool (decide_eq_true hb48))) ⟨H45, h46⟩ (fun _ => dv_fieldAddr (a := ⟨b21, 0, none⟩) (a' := ⟨b21, 0, none⟩) fo52_0 (T rfl rfl) rfl) ?_
             refine aw_load 27 (.agg #[.int .u64 (wv3 ((Q i).x)), .int .u64 (wv2 ((Q i).x)), .int .u64 (wv1 ((Q i).x)), .int .u64 (wv0 ((Q i).x)), .int .u64 (wv3 ((Q i).y)), .int .u64 (wv2 ((Q i).y)), .int .u64 (wv1 ((Q i).y)), .int .u64 (wv0 ((Q i).y)), .int .u64 (wv3 ((Q i).u)), .int .u64 (wv2 ((Q i).u)), .int .u64 (wv1 ((Q i).u)), .int .u64 (wv0 ((Q i).u))]) rfl (by kernel_rfl) (.yes (d := 34) rfl rfl (congrArg Value.bool (decide_eq_true hb48))) ⟨H45, h46⟩ (fun _ s => dv_loads (l := [.int .u64 (wv3 ((Q i).x)), .int .u64 (wv2 ((Q i).x)), .int .u64 (wv1 ((Q i).x)), .int .u64 (wv0 ((Q i).x)), .int .u64 (wv3 ((Q i).y)), .int .u64 (wv2 ((Q i).y)), .int .u64 (wv1 ((Q i).y)), .int .u64 (wv0 ((Q i).y)), .int .u64 (wv3 ((Q i).u)), .int .u64 (wv2 ((Q i).u)), .int .u64 (wv1 ((Q i).u)), .int .u64 (wv0 ((Q i).u))]) agt40 sz40 (T rfl rfl) s.1 rfl) ?_
             refine aw_one 28 rfl (by kernel_rfl) (.yes (d := 34) rfl rfl (congrArg Value.bool (decide_eq_true hb48))) (oe_callf (vs := [.agg #[.int .u64 (wv3 ((Q ((i) - 1)).x)), .int .u64 (wv2 ((Q ((i) - 1)).x)), .int .u64 (wv1 ((Q ((i) - 1)).x)), .int .u64 (wv0 ((Q ((i) - 1)).x)), .int .u64 (wv3 ((Q ((i) - 1)).y)), .int .u64 (wv2 ((Q ((i) - 1)).y)), .int .u64 (wv1 ((Q ((i) - 1)).y)), .int .u64 (wv0 ((Q ((i) - 1)).y)), .int .u64 (wv3 ((Q ((i) - 1)).u)), .int .u64 (wv2 ((Q ((i) - 1)).u)), .int .u64 (wv1 ((Q ((i) - 1)).u)), .int .u64 (wv0 ((Q ((i) - 1)).u))], .agg #[.int .u64 (wv3 ((Q i).x)), .int .u64 (wv2 ((Q i).x)), .int .u64 (wv1 ((Q i).x)), .int .u64 (wv0 ((Q i).x)), .int .u64 (wv3 ((Q i).y)), .int .u64 (wv2 ((Q i).y)), .int .u64 (wv1 ((Q i).y)), .int .u64 (wv0 ((Q i).y)), .int .u64 (wv3 ((Q i).u)), .int .u64 (wv2 ((Q i).u)), .int .u64 (wv1 ((Q i).u)), .int .u64 (wv0 ((Q i).u))]]) co57 (ar2 (T rfl rfl) (T rfl rfl)) (cmpPoints_ok (x := (Q ((i) - 1)).x) (y := (Q ((i) - 1)).y) (u := (Q ((i) - 1)).u) (p := (Q i).x) (q := (Q i).y) (r := (Q i).u) (evF.x hxf (i := ((i) - 1)) (by omega)) (evF.y hxf (i := ((i) - 1)) (by omega)) (evF.u hxf (i := ((i) - 1)) (by omega)) (evF.x hxf (i := i) (by omega)) (evF.y hxf (i := i) (by omega)) (evF.u hxf (i := i) (by omega)) ) ?_)
             rintro _ w49 ⟨rfl, e50⟩
             have E51 := below_ext E44 E44.size e50
             have := pc_rg ((Q ((i) - 1)).x) ((Q ((i) - 1)).y) ((Q ((i) - 1)).u) ((Q i).x) ((Q i).y) ((Q i).u)
             have H52 := (e50.blk H45)
             have h53 := (h46.ext e50)
             refine ⟨.inr ⟨H52, h53⟩, ?_⟩
             refine aw_pure 29 (.bool (decide (0 ≤ (pc ((Q ((i) - 1)).x) ((Q ((i) - 1)).y) ((Q ((i) - 1)).u) ((Q i).x) ((Q i).y) ((Q i).u))))) rfl (by kernel_rfl) (.yes (d := 34) rfl rfl (congrArg Value.bool (decide_eq_true hb48))) ⟨H52, h53⟩ (fun _ => dv_geq (a := pc ((Q ((i) - 1)).x) ((Q ((i) - 1)).y) ((Q ((i) - 1)).u) ((Q i).x) ((Q i).y) ((Q i).u)) (b := 0) (T rfl rfl) C) ?_
             refine aw_pure 30 (.bool (decide (0 ≤ (pc ((Q ((i) - 1)).x) ((Q ((i) - 1)).y) ((Q ((i) - 1)).u) ((Q i).x) ((Q i).y) ((Q i).u))))) rfl (by kernel_rfl) (.yes (d := 31) rfl rfl (congrArg Value.bool (decide_eq_false (not_not_intro hb47)))) ⟨H52, h53⟩ (fun _ => dv_pick_t (T rfl (congrArg Value.bool (decide_eq_true hb48))) (T rfl rfl)) ?_
             refine aw_pure 31 (.bool (decide (0 ≤ (pc ((Q ((i) - 1)).x) ((Q ((i) - 1)).y) ((Q ((i) - 1)).u) ((Q i).x) ((Q i).y) ((Q i).u))))) rfl (by kernel_rfl) .none ⟨H52, h53⟩ (fun _ => dv_pick_f (T rfl (congrArg Value.bool (decide_eq_false (not_not_intro hb47)))) (T rfl rfl)) ?_
             refine aw_done (by kernel_rfl) ?_
             by_cases hb54 : 0 ≤ (pc ((Q ((i) - 1)).x) ((Q ((i) - 1)).y) ((Q ((i) - 1)).u) ((Q i).x) ((Q i).y) ((Q i).u))
             · refine rk_ct (T rfl (congrArg Value.bool (decide_eq_true hb54))) ?_
               refine rk_seq ?_
               refine rk_reg ?_
               refine lw_v (.bool false) (dv_assign C) ?_
               refine lw_nil ?_
               refine rk_ret Try.func18 (v := .bool false) (res1 Try.results18 (rv_tmp rfl rfl)) ⟨_, rfl, ?_⟩
               exact ⟨(vf (fun hh_ => by have hh := hh_.2 i (by omega); first | exact absurd hh.1 (by assumption) | exact absurd hh.2.2.1 (by assumption) | (have h2_ := hh.2.1; omega) | (have h2_ := hh.2.2.2 (by omega); omega))), E51⟩
             · refine rk_cf (T rfl (congrArg Value.bool (decide_eq_false hb54))) ?_
               refine rk_skip ?_
               refine rk_inBlock ?_
               refine rk_reg ?_
               refine lw_v (.int .i64 (((i : Int)) + 1)) (dv_add (a := (i : Int)) (b := 1) (z := ((i : Int)) + 1) (T rfl f10) C (wr_i64 (by omega) (by omega))) ?_
               refine lw_v (.int .i64 (((i : Int)) + 1)) (dv_move (T rfl rfl)) ?_
               refine lw_nil ?_
               exact ih4 (l - ((i + 1))) _ _ (by rw [hd12]; omega) ⟨(i + 1), rfl, f7, f8, f9, (vi (by omega)), E51, (by omega), (all_step hall ⟨(by first | assumption | exact Decidable.not_not.1 (by assumption)), by omega, (by first | assumption | exact Decidable.not_not.1 (by assumption)), fun h0_ => by first | omega | (exfalso; omega)⟩)⟩
           · refine aw_no 20 rfl (by kernel_rfl) (d := 34) rfl rfl (congrArg Value.bool (decide_eq_false hb48)) ⟨H45, h46⟩ ?_
             refine aw_no 21 rfl (by kernel_rfl) (d := 34) rfl rfl (congrArg Value.bool (decide_eq_false hb48)) ⟨H45, h46⟩ ?_
             refine aw_no 22 rfl (by kernel_rfl) (d := 34) rfl rfl (congrArg Value.bool (decide_eq_false hb48)) ⟨H45, h46⟩ ?_
             refine aw_no 23 rfl (by kernel_rfl) (d := 34) rfl rfl (congrArg Value.bool (decide_eq_false hb48)) ⟨H45, h46⟩ ?_
             refine aw_no 24 rfl (by kernel_rfl) (d := 34) rfl rfl (congrArg Value.bool (decide_eq_false hb48)) ⟨H45, h46⟩ ?_
             refine aw_no 25 rfl (by kernel_rfl) (d := 34) rfl rfl (congrArg Value.bool (decide_eq_false hb48)) ⟨H45, h46⟩ ?_
             refine aw_no 26 rfl (by kernel_rfl) (d := 34) rfl rfl (congrArg Value.bool (decide_eq_false hb48)) ⟨H45, h46⟩ ?_
             refine aw_no 27 rfl (by kernel_rfl) (d := 34) rfl rfl (congrArg Value.bool (decide_eq_false hb48)) ⟨H45, h46⟩ ?_
             refine aw_no 28 rfl (by kernel_rfl) (d := 34) rfl rfl (congrArg Value.bool (decide_eq_false hb48)) ⟨H45, h46⟩ ?_
             refine aw_no 29 rfl (by kernel_rfl) (d := 34) rfl rfl (congrArg Value.bool (decide_eq_false hb48)) ⟨H45, h46⟩ ?_
             refine aw_pure 30 (.bool false) rfl (by kernel_rfl) (.yes (d := 31) rfl rfl (congrArg Value.bool (decide_eq_false (not_not_intro hb47)))) ⟨H45, h46⟩ (fun _ => dv_pick_f (T rfl (congrArg Value.bool (decide_eq_false hb48))) C) ?_
             refine aw_pure 31 (.bool false) rfl (by kernel_rfl) .none ⟨H45, h46⟩ (fun _ => dv_pick_f (T rfl (congrArg Value.bool (decide_eq_false (not_not_intro hb47)))) (T rfl rfl)) ?_
             refine aw_done (by kernel_rfl) ?_
             refine rk_cf (T rfl rfl) ?_
             refine rk_skip ?_
             refine rk_inBlock ?_
             refine rk_reg ?_
             refine lw_v (.int .i64 (((i : Int)) + 1)) (dv_add (a := (i : Int)) (b := 1) (z := ((i : Int)) + 1) (T rfl f10) C (wr_i64 (by omega) (by omega))) ?_
             refine lw_v (.int .i64 (((i : Int)) + 1)) (dv_move (T rfl rfl)) ?_
             refine lw_nil ?_
             exact ih4 (l - ((i + 1))) _ _ (by rw [hd12]; omega) ⟨(i + 1), rfl, f7, f8, f9, (vi (by omega)), E44, (by omega), (all_step hall ⟨(by first | assumption | exact Decidable.not_not.1 (by assumption)), by omega, (by first | assumption | exact Decidable.not_not.1 (by assumption)), fun h0_ => by first | omega | (exfalso; omega)⟩)⟩
         · refine aw_no 17 rfl (by kernel_rfl) (d := 31) rfl rfl (congrArg Value.bool (decide_eq_true hb47)) ⟨H45, h46⟩ ?_
           refine aw_no 18 rfl (by kernel_rfl) (d := 31) rfl rfl (congrArg Value.bool (decide_eq_true hb47)) ⟨H45, h46⟩ ?_
           refine aw_no 19 rfl (by kernel_rfl) (d := 31) rfl rfl (congrArg Value.bool (decide_eq_true hb47)) ⟨H45, h46⟩ ?_
           refine aw_nou 20 rfl (by kernel_rfl) (d := 34) rfl rfl ⟨H45, h46⟩ ?_
           refine aw_nou 21 rfl (by kernel_rfl) (d := 34) rfl rfl ⟨H45, h46⟩ ?_
           refine aw_nou 22 rfl (by kernel_rfl) (d := 34) rfl rfl ⟨H45, h46⟩ ?_
           refine aw_nou 23 rfl (by kernel_rfl) (d := 34) rfl rfl ⟨H45, h46⟩ ?_
           refine aw_nou 24 rfl (by kernel_rfl) (d := 34) rfl rfl ⟨H45, h46⟩ ?_
           refine aw_nou 25 rfl (by kernel_rfl) (d := 34) rfl rfl ⟨H45, h46⟩ ?_
           refine aw_nou 26 rfl (by kernel_rfl) (d := 34) rfl rfl ⟨H45, h46⟩ ?_
           refine aw_nou 27 rfl (by kernel_rfl) (d := 34) rfl rfl ⟨H45, h46⟩ ?_
           refine aw_nou 28 rfl (by kernel_rfl) (d := 34) rfl rfl ⟨H45, h46⟩ ?_
           refine aw_nou 29 rfl (by kernel_rfl) (d := 34) rfl rfl ⟨H45, h46⟩ ?_
           refine aw_no 30 rfl (by kernel_rfl) (d := 31) rfl rfl (congrArg Value.bool (decide_eq_true hb47)) ⟨H45, h46⟩ ?_
           refine aw_pure 31 (.bool true) rfl (by kernel_rfl) .none ⟨H45, h46⟩ (fun _ => dv_pick_t (T rfl (congrArg Value.bool (decide_eq_true hb47))) C) ?_
           refine aw_done (by kernel_rfl) ?_
           refine rk_ct (T rfl rfl) ?_
           refine rk_seq ?_
           refine rk_reg ?_
           refine lw_v (.bool false) (dv_assign C) ?_
           refine lw_nil ?_
           refine rk_ret Try.func18 (v := .bool false) (res1 Try.results18 (rv_tmp rfl rfl)) ⟨_, rfl, ?_⟩
           exact ⟨(vf (fun hh_ => by have hh := hh_.2 i (by omega); first | exact absurd hh.1 (by assumption) | exact absurd hh.2.2.1 (by assumption) | (have h2_ := hh.2.1; omega) | (have h2_ := hh.2.2.2 (by omega); omega))), E44⟩
     · refine aw_no 5 rfl (by kernel_rfl) (d := 19) rfl rfl (congrArg Value.bool (decide_eq_true hb40)) ⟨H38, h39⟩ ?_
       refine aw_no 6 rfl (by kernel_rfl) (d := 19) rfl rfl (congrArg Value.bool (decide_eq_true hb40)) ⟨H38, h39⟩ ?_
       refine aw_no 7 rfl (by kernel_rfl) (d := 19) rfl rfl (congrArg Value.bool (decide_eq_true hb40)) ⟨H38, h39⟩ ?_
       refine aw_no 8 rfl (by kernel_rfl) (d := 19) rfl rfl (congrArg Value.bool (decide_eq_true hb40)) ⟨H38, h39⟩ ?_
       refine aw_pure 9 (.bool true) rfl (by kernel_rfl) .none ⟨H38, h39⟩ (fun _ => dv_pick_t (T rfl (congrArg Value.bool (decide_eq_true hb40))) C) ?_
       refine aw_pure 10 (.bool true) rfl (by kernel_rfl) .none ⟨H38, h39⟩ (fun _ => dv_move (T rfl rfl)) ?_
       refine aw_no 11 rfl (by kernel_rfl) (d := 25) rfl rfl (rfl) ⟨H38, h39⟩ ?_
       refine aw_no 12 rfl (by kernel_rfl) (d := 25) rfl rfl (rfl) ⟨H38, h39⟩ ?_
       refine aw_no 13 rfl (by kernel_rfl) (d := 25) rfl rfl (rfl) ⟨H38, h39⟩ ?_
       refine aw_no 14 rfl (by kernel_rfl) (d := 25) rfl rfl (rfl) ⟨H38, h39⟩ ?_
       refine aw_pure 15 (.bool true) rfl (by kernel_rfl) .none ⟨H38, h39⟩ (fun _ => dv_pick_t (T rfl rfl) C) ?_
       refine aw_pure 16 (.bool true) rfl (by kernel_rfl) .none ⟨H38, h39⟩ (fun _ => dv_move (T rfl rfl)) ?_
       refine aw_no 17 rfl (by kernel_rfl) (d := 31) rfl rfl (rfl) ⟨H38, h39⟩ ?_
       refine aw_no 18 rfl (by kernel_rfl) (d := 31) rfl rfl (rfl) ⟨H38, h39⟩ ?_
       refine aw_no 19 rfl (by kernel_rfl) (d := 31) rfl rfl (rfl) ⟨H38, h39⟩ ?_
       refine aw_nou 20 rfl (by kernel_rfl) (d := 34) rfl rfl ⟨H38, h39⟩ ?_
       refine aw_nou 21 rfl (by kernel_rfl) (d := 34) rfl rfl ⟨H38, h39⟩ ?_
       refine aw_nou 22 rfl (by kernel_rfl) (d := 34) rfl rfl ⟨H38, h39⟩ ?_
       refine aw_nou 23 rfl (by kernel_rfl) (d := 34) rfl rfl ⟨H38, h39⟩ ?_
       refine aw_nou 24 rfl (by kernel_rfl) (d := 34) rfl rfl ⟨H38, h39⟩ ?_
       refine aw_nou 25 rfl (by kernel_rfl) (d := 34) rfl rfl ⟨H38, h39⟩ ?_
       refine aw_nou 26 rfl (by kernel_rfl) (d := 34) rfl rfl ⟨H38, h39⟩ ?_
       refine aw_nou 27 rfl (by kernel_rfl) (d := 34) rfl rfl ⟨H38, h39⟩ ?_
       refine aw_nou 28 rfl (by kernel_rfl) (d := 34) rfl rfl ⟨H38, h39⟩ ?_
       refine aw_nou 29 rfl (by kernel_rfl) (d := 34) rfl rfl ⟨H38, h39⟩ ?_
       refine aw_no 30 rfl (by kernel_rfl) (d := 31) rfl rfl (rfl) ⟨H38, h39⟩ ?_
       refine aw_pure 31 (.bool true) rfl (by kernel_rfl) .none ⟨H38, h39⟩ (fun _ => dv_pick_t (T rfl rfl) C) ?_
       refine aw_done (by kernel_rfl) ?_
       refine rk_ct (T rfl rfl) ?_
       refine rk_seq ?_
       refine rk_reg ?_
       refine lw_v (.bool false) (dv_assign C) ?_
       refine lw_nil ?_
       refine rk_ret Try.func18 (v := .bool false) (res1 Try.results18 (rv_tmp rfl rfl)) ⟨_, rfl, ?_⟩
       exact ⟨(vf (fun hh_ => by have hh := hh_.2 i (by omega); first | exact absurd hh.1 (by assumption) | exact absurd hh.2.2.1 (by assumption) | (have h2_ := hh.2.1; omega) | (have h2_ := hh.2.2.2 (by omega); omega))), E37⟩
   · refine rk_cf (T rfl (congrArg Value.bool (decide_eq_false hb17))) ?_
     refine rk_exit rfl ?_
     refine rk_seq ?_
     refine rk_reg ?_
     refine lw_v (.bool true) (dv_assign C) ?_
     refine lw_nil ?_
     refine rk_ret Try.func18 (v := .bool true) (res1 Try.results18 (rv_tmp rfl rfl)) ⟨_, rfl, ?_⟩
     exact ⟨(vt ⟨by omega, fun k hk => hall k (by omega)⟩), E11⟩
set_option maxHeartbeats 1000000 in
theorem sEventsOk_ok {w : World} {A : Option Addr} {l c : Nat} {Q : Nat → Ev} {SL : SlF} {lo hi : Nat} (hx : NR w lo hi A l (fun i_ => evW (Q i_)) (fun i_ => (Q i_).es) SL) (hxb : l ≤ 1048576) (hxf : evF l Q) : Ct Try.prog 16 [.slice A l c] w fun v w1 => v = .bool (decide (evsOk l Q)) ∧ Ext w w1 := by
 refine ct_run (n := 95) Try.func16 rfl Try.ntmps16 rfl ?_
 have E0 : Below w.heap.size w w := Below.refl _ _
 have hhi := hx.lh
 refine rk_seq ?_
 refine rk_reg ?_
 refine lw_v (.bool false) (dv_assign C) ?_
 refine lw_nil ?_
 refine rk_seq ?_
 refine rk_seq ?_
 refine rk_reg ?_
 refine lw_v (.slice A l c) (dv_move (T rfl rfl)) ?_
 refine lw_v (.int .i64 ((l : Int))) (dv_len (ad := A) (l := l) (c := c) us46 (T rfl rfl)) ?_
 refine lw_v (.bool (decide (200 < ((l : Int))))) (dv_gtr (a := (l : Int)) (b := 200) (T rfl rfl) C) ?_
 refine lw_nil ?_
 by_cases hb1 : 200 < ((l : Int))
 · refine rk_ct (T rfl (congrArg Value.bool (decide_eq_true hb1))) ?_
   refine rk_seq ?_
   refine rk_reg ?_
   refine lw_v (.bool false) (dv_assign C) ?_
   refine lw_nil ?_
   refine rk_ret Try.func16 (v := .bool false) (res1 Try.results16 (rv_tmp rfl rfl)) ⟨_, rfl, ?_⟩
   exact ⟨(vf (fun hh => by have h_ := hh.1; omega)), E0⟩
 · refine rk_cf (T rfl (congrArg Value.bool (decide_eq_false hb1))) ?_
   refine rk_skip ?_
   refine rk_seq ?_
   refine rk_seq ?_
   refine rk_reg ?_
   refine lw_v (.int .i64 0) (dv_assign C) ?_
   refine lw_nil ?_
   refine rk_block ?_
   refine rk_loop (fun dm_ fr wl => ∃ (i : Nat), dm_ = l - i ∧ fr 0 = .slice A l c ∧ fr 3 = .int .i64 ((i : Int)) ∧ Below w.heap.size w wl ∧ (i ≤ l) ∧ (∀ k, k < i → evOkAt Q k)) (l - 0) ⟨0, rfl, rfl, (vi (by omega)), E0, (Nat.zero_le _), (fun k hk => absurd hk (by omega))⟩ ?_
   intro d6 fr5 w2 hI3 ih4
   obtain ⟨i, hd10, f7, f8, E9, hi_, hall⟩ := hI3
   obtain ⟨As11, hAs13⟩ : ∃ q_ : Option Addr, q_ = (SL i).1 := ⟨_, rfl⟩
   obtain ⟨cs12, hcs14⟩ : ∃ q_ : Nat, q_ = (SL i).2 := ⟨_, rfl⟩
   have hen : i < l → (Q i).es.length ≤ 1048576 := fun h_ => evF.n hxf h_
   refine rk_seq ?_
   refine rk_seq ?_
   refine rk_reg ?_
   refine lw_v (.int .i64 ((i : Int))) (dv_move (T rfl f8)) ?_
   refine lw_v (.slice A l c) (dv_move (T rfl f7)) ?_
   refine lw_v (.int .i64 ((l : Int))) (dv_len (ad := A) (l := l) (c := c) us46 (T rfl rfl)) ?_
   refine lw_v (.bool (decide (((i : Int)) < ((l : Int))))) (dv_lss (a := (i : Int)) (b := (l : Int)) (T rfl rfl) (T rfl rfl)) ?_
   refine lw_nil ?_
   by_cases hb15 : ((i : Int)) < ((l : Int))
   · refine rk_ct (T rfl (congrArg Value.bool (decide_eq_true hb15))) ?_
     refine rk_skip ?_
     refine rk_seq ?_
     refine rk_block ?_
     refine rk_seq ?_
     refine rk_seq ?_
     refine rk_any (fun w => NR w lo hi A l (fun i_ => evW (Q i_)) (fun i_ => (Q i_).es) SL) [] mo ?_
     intro w16 d17
     have E18 := below_ext E9 E9.size d17.ext
     have h19 := ((hx.ext E9).ext d17.ext)
     refine aw_pure 0 (.slice A l c) rfl (by kernel_rfl) .none h19 (fun _ => dv_move (T rfl f7)) ?_
     refine aw_pure 1 (.int .i64 ((i : Int))) rfl (by kernel_rfl) .none h19 (fun _ => dv_move (T rfl f8)) ?_
     obtain ⟨g20, o21, rfl⟩ := NR.at h19 (by first | omega | (simp; done) | (simp; omega))
     refine aw_pure 2 (.pointer (some ⟨g20, o21 + i * 13, none⟩)) rfl (by kernel_rfl) .none h19 (fun _ => dv_indexM (g := g20) (o := o21) (l := l) (c := c) (i := i) (j := (i : Int)) (m := 13) us46 sz52 (T rfl rfl) (T rfl rfl) (by omega) (by first | omega | (simp; done) | (simp; omega))) ?_
     refine aw_pure 3 (.pointer (some ⟨g20, o21 + (i * 13), none⟩)) rfl (by kernel_rfl) .none h19 (fun _ => dv_fieldW (g := g20) (o := o21) (i := i * 13) fo52_0 (T rfl rfl)) ?_
     refine aw_load 4 (.agg #[.int .u64 (wv3 ((Q i).x)), .int .u64 (wv2 ((Q i).x)), .int .u64 (wv1 ((Q i).x)), .int .u64 (wv0 ((Q i).x)), .int .u64 (wv3 ((Q i).y)), .int .u64 (wv2 ((Q i).y)), .int .u64 (wv1 ((Q i).y)), .int .u64 (wv0 ((Q i).y)), .int .u64 (wv3 ((Q i).u)), .int .u64 (wv2 ((Q i).u)), .int .u64 (wv1 ((Q i).u)), .int .u64 (wv0 ((Q i).u))]) rfl (by kernel_rfl) .none h19 (fun _ s => dv_loadsR (l := [.int .u64 (wv3 ((Q i).x)), .int .u64 (wv2 ((Q i).x)), .int .u64 (wv1 ((Q i).x)), .int .u64 (wv0 ((Q i).x)), .int .u64 (wv3 ((Q i).y)), .int .u64 (wv2 ((Q i).y)), .int .u64 (wv1 ((Q i).y)), .int .u64 (wv0 ((Q i).y)), .int .u64 (wv3 ((Q i).u)), .int .u64 (wv2 ((Q i).u)), .int .u64 (wv1 ((Q i).u)), .int .u64 (wv0 ((Q i).u))]) agt40 sz40 (T rfl rfl) rfl (NR.pt (i := i) s (by first | omega | (simp; done) | (simp; omega)))) ?_
     refine aw_one 5 rfl (by kernel_rfl) .none (oe_callf (vs := [.agg #[.int .u64 (wv3 ((Q i).x)), .int .u64 (wv2 ((Q i).x)), .int .u64 (wv1 ((Q i).x)), .int .u64 (wv0 ((Q i).x)), .int .u64 (wv3 ((Q i).y)), .int .u64 (wv2 ((Q i).y)), .int .u64 (wv1 ((Q i).y)), .int .u64 (wv0 ((Q i).y)), .int .u64 (wv3 ((Q i).u)), .int .u64 (wv2 ((Q i).u)), .int .u64 (wv1 ((Q i).u)), .int .u64 (wv0 ((Q i).u))]]) co50 (ar1 (T rfl rfl)) (sPointOk_ok (x := (Q i).x) (y := (Q i).y) (u := (Q i).u) (evF.x hxf (i := i) (by omega)) (evF.y hxf (i := i) (by omega)) (evF.u hxf (i := i) (by omega)) ) ?_)
     rintro _ w22 ⟨rfl, e23⟩
     have E24 := below_ext E18 E18.size e23
     have h25 := (h19.ext e23)
     refine ⟨.inr h25, ?_⟩
     refine aw_pure 6 (.bool (decide (¬ (pOk ((Q i).x) ((Q i).y) ((Q i).u))))) rfl (by kernel_rfl) .none h25 (fun _ => dv_notd (p := pOk ((Q i).x) ((Q i).y) ((Q i).u)) (T rfl rfl)) ?_
     refine aw_pure 7 (.bool (decide (¬ (pOk ((Q i).x) ((Q i).y) ((Q i).u))))) rfl (by kernel_rfl) .none h25 (fun _ => dv_move (T rfl rfl)) ?_
     by_cases hb26 : pOk ((Q i).x) ((Q i).y) ((Q i).u)
     · refine aw_pure 8 (.slice (some ⟨g20, o21, none⟩) l c) rfl (by kernel_rfl) (.yes (d := 21) rfl rfl (congrArg Value.bool (decide_eq_false (not_not_intro hb26)))) h25 (fun _ => dv_move (T rfl f7)) ?_
       refine aw_pure 9 (.int .i64 ((i : Int))) rfl (by kernel_rfl) (.yes (d := 21) rfl rfl (congrArg Value.bool (decide_eq_false (not_not_intro hb26)))) h25 (fun _ => dv_move (T rfl f8)) ?_
       refine aw_pure 10 (.pointer (some ⟨g20, o21 + i * 13, none⟩)) rfl (by kernel_rfl) (.yes (d := 21) rfl rfl (congrArg Value.bool (decide_eq_false (not_not_intro hb26)))) h25 (fun _ => dv_indexM (g := g20) (o := o21) (l := l) (c := c) (i := i) (j := (i : Int)) (m := 13) us46 sz52 (T rfl rfl) (T rfl rfl) (by omega) (by first | omega | (simp; done) | (simp; omega))) ?_
       refine aw_pure 11 (.pointer (some ⟨g20, o21 + (i * 13 + 12), none⟩)) rfl (by kernel_rfl) (.yes (d := 21) rfl rfl (congrArg Value.bool (decide_eq_false (not_not_intro hb26)))) h25 (fun _ => dv_fieldW (g := g20) (o := o21) (i := i * 13) fo52_1 (T rfl rfl)) ?_
       refine aw_load 12 (.slice As11 ((Q i).es.length) cs12) rfl (by kernel_rfl) (.yes (d := 21) rfl rfl (congrArg Value.bool (decide_eq_false (not_not_intro hb26)))) h25 (fun _ s => dv_load agt50 (T rfl rfl) (NR.slA (i := i) s (by first | omega | (simp; done) | (simp; omega)) hAs13 hcs14)) ?_
       refine aw_pure 13 (.int .i64 (((Q i).es.length : Int))) rfl (by kernel_rfl) (.yes (d := 21) rfl rfl (congrArg Value.bool (decide_eq_false (not_not_intro hb26)))) h25 (fun _ => dv_len (ad := As11) (l := (Q i).es.length) (c := cs12) us50 (T rfl rfl)) ?_
       refine aw_pure 14 (.bool (decide ((((Q i).es.length : Int)) < 1))) rfl (by kernel_rfl) (.yes (d := 21) rfl rfl (congrArg Value.bool (decide_eq_false (not_not_intro hb26)))) h25 (fun _ => dv_lss (a := ((Q i).es.length : Int)) (b := 1) (T rfl rfl) C) ?_
       refine aw_pure 15 (.bool (decide ((((Q i).es.length : Int)) < 1))) rfl (by kernel_rfl) .none h25 (fun _ => dv_pick_f (T rfl (congrArg Value.bool (decide_eq_false (not_not_intro hb26)))) (T rfl rfl)) ?_
       refine aw_pure 16 (.bool (decide ((((Q i).es.length : Int)) < 1))) rfl (by kernel_rfl) .none h25 (fun _ => dv_move (T rfl rfl)) ?_
       by_cases hb27 : (((Q i).es.length : Int)) < 1
       · refine aw_no 17 rfl (by kernel_rfl) (d := 30) rfl rfl (congrArg Value.bool (decide_eq_true hb27)) h25 ?_
         refine aw_no 18 rfl (by kernel_rfl) (d := 30) rfl rfl (congrArg Value.bool (decide_eq_true hb27)) h25 ?_
         refine aw_no 19 rfl (by kernel_rfl) (d := 30) rfl rfl (congrArg Value.bool (decide_eq_true hb27)) h25 ?_
         refine aw_nou 20 rfl (by kernel_rfl) (d := 33) rfl rfl h25 ?_
         refine aw_nou 21 rfl (by kernel_rfl) (d := 33) rfl rfl h25 ?_
         refine aw_nou 22 rfl (by kernel_rfl) (d := 33) rfl rfl h25 ?_
         refine aw_nou 23 rfl (by kernel_rfl) (d := 33) rfl rfl h25 ?_
         refine aw_nou 24 rfl (by kernel_rfl) (d := 33) rfl rfl h25 ?_
         refine aw_nou 25 rfl (by kernel_rfl) (d := 33) rfl rfl h25 ?_
         refine aw_nou 26 rfl (by kernel_rfl) (d := 33) rfl rfl h25 ?_
         refine aw_nou 27 rfl (by kernel_rfl) (d := 33) rfl rfl h25 ?_
         refine aw_nou 28 rfl (by kernel_rfl) (d := 33) rfl rfl h25 ?_
         refine aw_nou 29 rfl (by kernel_rfl) (d := 33) rfl rfl h25 ?_
         refine aw_nou 30 rfl (by kernel_rfl) (d := 33) rfl rfl h25 ?_
         refine aw_nou 31 rfl (by kernel_rfl) (d := 33) rfl rfl h25 ?_
         refine aw_nou 32 rfl (by kernel_rfl) (d := 33) rfl rfl h25 ?_
         refine aw_nou 33 rfl (by kernel_rfl) (d := 33) rfl rfl h25 ?_
         refine aw_nou 34 rfl (by kernel_rfl) (d := 33) rfl rfl h25 ?_
         refine aw_no 35 rfl (by kernel_rfl) (d := 30) rfl rfl (congrArg Value.bool (decide_eq_true hb27)) h25 ?_
         refine aw_pure 36 (.bool true) rfl (by kernel_rfl) .none h25 (fun _ => dv_pick_t (T rfl (congrArg Value.bool (decide_eq_true hb27))) C) ?_
         refine aw_done (by kernel_rfl) ?_
         refine rk_ct (T rfl rfl) ?_
         refine rk_seq ?_
         refine rk_reg ?_
         refine lw_v (.bool false) (dv_assign C) ?_
         refine lw_nil ?_
         refine rk_ret Try.func16 (v := .bool false) (res1 Try.results16 (rv_tmp rfl rfl)) ⟨_, rfl, ?_⟩
         exact ⟨(vf (fun hh_ => by have hh := hh_.2 i (by omega); first | exact absurd hh.1 (by assumption) | exact absurd hh.2.2.1 (by assumption) | (have h2_ := hh.2.1; omega) | (have h2_ := hh.2.2.2 (by omega); omega))), E24⟩
       · refine aw_pure 17 (.int .i64 ((i : Int))) rfl (by kernel_rfl) (.yes (d := 30) rfl rfl (congrArg Value.bool (decide_eq_false hb27))) h25 (fun _ => dv_move (T rfl f8)) ?_
         refine aw_pure 18 (.bool (decide (0 < ((i : Int))))) rfl (by kernel_rfl) (.yes (d := 30) rfl rfl (congrArg Value.bool (decide_eq_false hb27))) h25 (fun _ => dv_gtr (a := (i : Int)) (b := 0) (T rfl rfl) C) ?_
         refine aw_pure 19 (.bool (decide (0 < ((i : Int))))) rfl (by kernel_rfl) (.yes (d := 30) rfl rfl (congrArg Value.bool (decide_eq_false hb27))) h25 (fun _ => dv_move (T rfl rfl)) ?_
         by_cases hb28 : 0 < ((i : Int))
         · refine aw_pure 20 (.slice (some ⟨g20, o21, none⟩) l c) rfl (by kernel_rfl) (.yes (d := 33) rfl rfl (congrArg Value.bool (decide_eq_true hb28))) h25 (fun _ => dv_move (T rfl f7)) ?_
           refine aw_pure 21 (.int .i64 ((i : Int))) rfl (by kernel_rfl) (.yes (d := 33) rfl rfl (congrArg Value.bool (decide_eq_true hb28))) h25 (fun _ => dv_move (T rfl f8)) ?_
           refine aw_pure 22 (.int .i64 (((i : Int)) - 1)) rfl (by kernel_rfl) (.yes (d := 33) rfl rfl (congrArg Value.bool (decide_eq_true hb28))) h25 (fun _ => dv_sub (a := (i : Int)) (b := 1) (z := ((i : Int)) - 1) (T rfl rfl) C (wr_i64 (by omega) (by omega))) ?_
           refine aw_pure 23 (.pointer (some ⟨g20, o21 + (((i) - 1)) * 13, none⟩)) rfl (by kernel_rfl) (.yes (d := 33) rfl rfl (congrArg Value.bool (decide_eq_true hb28))) h25 (fun _ => dv_indexM (g := g20) (o := o21) (l := l) (c := c) (i := ((i) - 1)) (j := ((i : Int)) - 1) (m := 13) us46 sz52 (T rfl rfl) (T rfl rfl) (by omega) (by first | omega | (simp; done) | (simp; omega))) ?_
           refine aw_pure 24 (.pointer (some ⟨g20, o21 + ((((i) - 1)) * 13), none⟩)) rfl (by kernel_rfl) (.yes (d := 33) rfl rfl (congrArg Value.bool (decide_eq_true hb28))) h25 (fun _ => dv_fieldW (g := g20) (o := o21) (i := (((i) - 1)) * 13) fo52_0 (T rfl rfl)) ?_
           refine aw_load 25 (.agg #[.int .u64 (wv3 ((Q ((i) - 1)).x)), .int .u64 (wv2 ((Q ((i) - 1)).x)), .int .u64 (wv1 ((Q ((i) - 1)).x)), .int .u64 (wv0 ((Q ((i) - 1)).x)), .int .u64 (wv3 ((Q ((i) - 1)).y)), .int .u64 (wv2 ((Q ((i) - 1)).y)), .int .u64 (wv1 ((Q ((i) - 1)).y)), .int .u64 (wv0 ((Q ((i) - 1)).y)), .int .u64 (wv3 ((Q ((i) - 1)).u)), .int .u64 (wv2 ((Q ((i) - 1)).u)), .int .u64 (wv1 ((Q ((i) - 1)).u)), .int .u64 (wv0 ((Q ((i) - 1)).u))]) rfl (by kernel_rfl) (.yes (d := 33) rfl rfl (congrArg Value.bool (decide_eq_true hb28))) h25 (fun _ s => dv_loadsR (l := [.int .u64 (wv3 ((Q ((i) - 1)).x)), .int .u64 (wv2 ((Q ((i) - 1)).x)), .int .u64 (wv1 ((Q ((i) - 1)).x)), .int .u64 (wv0 ((Q ((i) - 1)).x)), .int .u64 (wv3 ((Q ((i) - 1)).y)), .int .u64 (wv2 ((Q ((i) - 1)).y)), .int .u64 (wv1 ((Q ((i) - 1)).y)), .int .u64 (wv0 ((Q ((i) - 1)).y)), .int .u64 (wv3 ((Q ((i) - 1)).u)), .int .u64 (wv2 ((Q ((i) - 1)).u)), .int .u64 (wv1 ((Q ((i) - 1)).u)), .int .u64 (wv0 ((Q ((i) - 1)).u))]) agt40 sz40 (T rfl rfl) rfl (NR.pt (i := (i) - 1) s (by first | omega | (simp; done) | (simp; omega)))) ?_
           refine aw_pure 27 (.slice (some ⟨g20, o21, none⟩) l c) rfl (by kernel_rfl) (.yes (d := 33) rfl rfl (congrArg Value.bool (decide_eq_true hb28))) h25 (fun _ => dv_move (T rfl f7)) ?_
           refine aw_pure 28 (.int .i64 ((i : Int))) rfl (by kernel_rfl) (.yes (d := 33) rfl rfl (congrArg Value.bool (decide_eq_true hb28))) h25 (fun _ => dv_move (T rfl f8)) ?_
           refine aw_pure 29 (.pointer (some ⟨g20, o21 + i * 13, none⟩)) rfl (by kernel_rfl) (.yes (d := 33) rfl rfl (congrArg Value.bool (decide_eq_true hb28))) h25 (fun _ => dv_indexM (g := g20) (o := o21) (l := l) (c := c) (i := i) (j := (i : Int)) (m := 13) us46 sz52 (T rfl rfl) (T rfl rfl) (by omega) (by first | omega | (simp; done) | (simp; omega))) ?_
           refine aw_pure 30 (.pointer (some ⟨g20, o21 + (i * 13), none⟩)) rfl (by kernel_rfl) (.yes (d := 33) rfl rfl (congrArg Value.bool (decide_eq_true hb28))) h25 (fun _ => dv_fieldW (g := g20) (o := o21) (i := i * 13) fo52_0 (T rfl rfl)) ?_
           refine aw_load 31 (.agg #[.int .u64 (wv3 ((Q i).x)), .int .u64 (wv2 ((Q i).x)), .int .u64 (wv1 ((Q i).x)), .int .u64 (wv0 ((Q i).x)), .int .u64 (wv3 ((Q i).y)), .int .u64 (wv2 ((Q i).y)), .int .u64 (wv1 ((Q i).y)), .int .u64 (wv0 ((Q i).y)), .int .u64 (wv3 ((Q i).u)), .int .u64 (wv2 ((Q i).u)), .int .u64 (wv1 ((Q i).u)), .int .u64 (wv0 ((Q i).u))]) rfl (by kernel_rfl) (.yes (d := 33) rfl rfl (congrArg Value.bool (decide_eq_true hb28))) h25 (fun _ s => dv_loadsR (l := [.int .u64 (wv3 ((Q i).x)), .int .u64 (wv2 ((Q i).x)), .int .u64 (wv1 ((Q i).x)), .int .u64 (wv0 ((Q i).x)), .int .u64 (wv3 ((Q i).y)), .int .u64 (wv2 ((Q i).y)), .int .u64 (wv1 ((Q i).y)), .int .u64 (wv0 ((Q i).y)), .int .u64 (wv3 ((Q i).u)), .int .u64 (wv2 ((Q i).u)), .int .u64 (wv1 ((Q i).u)), .int .u64 (wv0 ((Q i).u))]) agt40 sz40 (T rfl rfl) rfl (NR.pt (i := i) s (by first | omega | (simp; done) | (simp; omega)))) ?_
           refine aw_one 26 rfl (by kernel_rfl) (.yes (d := 33) rfl rfl (congrArg Value.bool (decide_eq_true hb28))) (oe_callf (vs := [.agg #[.int .u64 (wv3 ((Q ((i) - 1)).x)), .int .u64 (wv2 ((Q ((i) - 1)).x)), .int .u64 (wv1 ((Q ((i) - 1)).x)), .int .u64 (wv0 ((Q ((i) - 1)).x)), .int .u64 (wv3 ((Q ((i) - 1)).y)), .int .u64 (wv2 ((Q ((i) - 1)).y)), .int .u64 (wv1 ((Q ((i) - 1)).y)), .int .u64 (wv0 ((Q ((i) - 1)).y)), .int .u64 (wv3 ((Q ((i) - 1)).u)), .int .u64 (wv2 ((Q ((i) - 1)).u)), .int .u64 (wv1 ((Q ((i) - 1)).u)), .int .u64 (wv0 ((Q ((i) - 1)).u))]]) co52 (ar1 (T rfl rfl)) (l3Of_ok (evF.x hxf (i := ((i) - 1)) (by omega)) (evF.y hxf (i := ((i) - 1)) (by omega)) (evF.u hxf (i := ((i) - 1)) (by omega))  ) ?_)
           rintro _ w44 ⟨nr29, A30, n31, c32, nr33, A34, n35, c36, nr37, A38, n39, c40, rfl, e45, h41, h42, h43⟩
           have E46 := below_ext E24 E24.size e45
           have lh41 := Num.len (by decide) h41
           have lh42 := Num.len (by decide) h42
           have lh43 := Num.len (by decide) h43
           have h47 := (h25.ext e45)
           refine ⟨.inr h47, ?_⟩
           refine aw_one 32 rfl (by kernel_rfl) (.yes (d := 33) rfl rfl (congrArg Value.bool (decide_eq_true hb28))) (oe_callf (vs := [.agg #[.int .u64 (wv3 ((Q i).x)), .int .u64 (wv2 ((Q i).x)), .int .u64 (wv1 ((Q i).x)), .int .u64 (wv0 ((Q i).x)), .int .u64 (wv3 ((Q i).y)), .int .u64 (wv2 ((Q i).y)), .int .u64 (wv1 ((Q i).y)), .int .u64 (wv0 ((Q i).y)), .int .u64 (wv3 ((Q i).u)), .int .u64 (wv2 ((Q i).u)), .int .u64 (wv1 ((Q i).u)), .int .u64 (wv0 ((Q i).u))]]) co52 (ar1 (T rfl rfl)) (l3Of_ok (evF.x hxf (i := i) (by omega)) (evF.y hxf (i := i) (by omega)) (evF.u hxf (i := i) (by omega))  ) ?_)
           rintro _ w63 ⟨nr48, A49, n50, c51, nr52, A53, n54, c55, nr56, A57, n58, c59, rfl, e64, h60, h61, h62⟩
           have E65 := below_ext E46 E46.size e64
           have lh60 := Num.len (by decide) h60
           have lh61 := Num.len (by decide) h61
           have lh62 := Num.len (by decide) h62
           have h66 := (h47.ext e64)
           refine ⟨.inr h66, ?_⟩
           have h67 := (h41.ext e64)
           have h68 := (h42.ext e64)
           have h69 := (h43.ext e64)
           refine aw_one 33 rfl (by kernel_rfl) (.yes (d := 33) rfl rfl (congrArg Value.bool (decide_eq_true hb28))) (oe_callf (vs := [.agg #[.bool nr29, .slice A30 n31 c32, .bool nr33, .slice A34 n35 c36, .bool nr37, .slice A38 n39 c40], .agg #[.bool nr48, .slice A49 n50 c51, .bool nr52, .slice A53 n54 c55, .bool nr56, .slice A57 n58 c59]]) co51 (ar2 (T rfl rfl) (T rfl rfl)) (l3Cmp_ok h67 h68 h69 h60 h61 h62 (by first | decide | omega) (by first | decide | omega) (by first | decide | omega) (by first | decide | omega) (by first | decide | omega) (by first | decide | omega) ) ?_)
           rintro _ w70 ⟨rfl, e71⟩
           have E72 := below_ext E65 E65.size e71
           have h73 := (h66.ext e71)
           refine ⟨.inr h73, ?_⟩
           refine aw_pure 34 (.bool (decide (0 ≤ (pc (((Q ((i) - 1)).x)) (((Q ((i) - 1)).y)) (((Q ((i) - 1)).u)) (((Q i).x)) (((Q i).y)) (((Q i).u)))))) rfl (by kernel_rfl) (.yes (d := 33) rfl rfl (congrArg Value.bool (decide_eq_true hb28))) h73 (fun _ => dv_geq (a := pc (((Q ((i) - 1)).x)) (((Q ((i) - 1)).y)) (((Q ((i) - 1)).u)) (((Q i).x)) (((Q i).y)) (((Q i).u))) (b := 0) (T rfl rfl) C) ?_
           refine aw_pure 35 (.bool (decide (0 ≤ (pc (((Q ((i) - 1)).x)) (((Q ((i) - 1)).y)) (((Q ((i) - 1)).u)) (((Q i).x)) (((Q i).y)) (((Q i).u)))))) rfl (by kernel_rfl) (.yes (d := 30) rfl rfl (congrArg Value.bool (decide_eq_false hb27))) h73 (fun _ => dv_pick_t (T rfl (congrArg Value.bool (decide_eq_true hb28))) (T rfl rfl)) ?_
           refine aw_pure 36 (.bool (decide (0 ≤ (pc (((Q ((i) - 1)).x)) (((Q ((i) - 1)).y)) (((Q ((i) - 1)).u)) (((Q i).x)) (((Q i).y)) (((Q i).u)))))) rfl (by kernel_rfl) .none h73 (fun _ => dv_pick_f (T rfl (congrArg Value.bool (decide_eq_false hb27))) (T rfl rfl)) ?_
           refine aw_done (by kernel_rfl) ?_
           by_cases hb74 : 0 ≤ (pc (((Q ((i) - 1)).x)) (((Q ((i) - 1)).y)) (((Q ((i) - 1)).u)) (((Q i).x)) (((Q i).y)) (((Q i).u)))
           · refine rk_ct (T rfl (congrArg Value.bool (decide_eq_true hb74))) ?_
             refine rk_seq ?_
             refine rk_reg ?_
             refine lw_v (.bool false) (dv_assign C) ?_
             refine lw_nil ?_
             refine rk_ret Try.func16 (v := .bool false) (res1 Try.results16 (rv_tmp rfl rfl)) ⟨_, rfl, ?_⟩
             exact ⟨(vf (fun hh_ => by have hh := hh_.2 i (by omega); first | exact absurd hh.1 (by assumption) | exact absurd hh.2.2.1 (by assumption) | (have h2_ := hh.2.1; omega) | (have h2_ := hh.2.2.2 (by omega); omega))), E72⟩
           · refine rk_cf (T rfl (congrArg Value.bool (decide_eq_false hb74))) ?_
             refine rk_skip ?_
             refine rk_seq ?_
             refine rk_reg ?_
             refine lw_v (.int .i64 0) (dv_assign C) ?_
             refine lw_nil ?_
             refine rk_block ?_
             refine rk_loop (fun dm_ fr wl => ∃ (k : Nat), dm_ = (Q i).es.length - k ∧ fr 0 = .slice (some ⟨g20, o21, none⟩) l c ∧ fr 3 = .int .i64 ((i : Int)) ∧ fr 4 = .int .i64 ((k : Int)) ∧ fr 8 = .int .i64 ((i : Int)) ∧ fr 9 = .slice (some ⟨g20, o21, none⟩) l c ∧ fr 10 = .int .i64 ((l : Int)) ∧ fr 11 = .bool (decide (((i : Int)) < ((l : Int)))) ∧ fr 14 = .slice (some ⟨g20, o21, none⟩) l c ∧ fr 15 = .int .i64 ((i : Int)) ∧ fr 16 = .pointer (some ⟨g20, o21 + i * 13, none⟩) ∧ fr 17 = .pointer (some ⟨g20, o21 + (i * 13), none⟩) ∧ fr 18 = .agg #[.int .u64 (wv3 ((Q i).x)), .int .u64 (wv2 ((Q i).x)), .int .u64 (wv1 ((Q i).x)), .int .u64 (wv0 ((Q i).x)), .int .u64 (wv3 ((Q i).y)), .int .u64 (wv2 ((Q i).y)), .int .u64 (wv1 ((Q i).y)), .int .u64 (wv0 ((Q i).y)), .int .u64 (wv3 ((Q i).u)), .int .u64 (wv2 ((Q i).u)), .int .u64 (wv1 ((Q i).u)), .int .u64 (wv0 ((Q i).u))] ∧ fr 19 = .bool (decide (pOk ((Q i).x) ((Q i).y) ((Q i).u))) ∧ fr 20 = .bool (decide (¬ (pOk ((Q i).x) ((Q i).y) ((Q i).u)))) ∧ fr 21 = .bool (decide (¬ (pOk ((Q i).x) ((Q i).y) ((Q i).u)))) ∧ fr 22 = .slice (some ⟨g20, o21, none⟩) l c ∧ fr 23 = .int .i64 ((i : Int)) ∧ fr 24 = .pointer (some ⟨g20, o21 + i * 13, none⟩) ∧ fr 25 = .pointer (some ⟨g20, o21 + (i * 13 + 12), none⟩) ∧ fr 26 = .slice As11 ((Q i).es.length) cs12 ∧ fr 27 = .int .i64 (((Q i).es.length : Int)) ∧ fr 28 = .bool (decide ((((Q i).es.length : Int)) < 1)) ∧ fr 29 = .bool (decide ((((Q i).es.length : Int)) < 1)) ∧ fr 30 = .bool (decide ((((Q i).es.length : Int)) < 1)) ∧ fr 31 = .int .i64 ((i : Int)) ∧ fr 32 = .bool (decide (0 < ((i : Int)))) ∧ fr 33 = .bool (decide (0 < ((i : Int)))) ∧ fr 34 = .slice (some ⟨g20, o21, none⟩) l c ∧ fr 35 = .int .i64 ((i : Int)) ∧ fr 36 = .int .i64 (((i : Int)) - 1) ∧ fr 37 = .pointer (some ⟨g20, o21 + (((i) - 1)) * 13, none⟩) ∧ fr 38 = .pointer (some ⟨g20, o21 + ((((i) - 1)) * 13), none⟩) ∧ fr 39 = .agg #[.int .u64 (wv3 ((Q ((i) - 1)).x)), .int .u64 (wv2 ((Q ((i) - 1)).x)), .int .u64 (wv1 ((Q ((i) - 1)).x)), .int .u64 (wv0 ((Q ((i) - 1)).x)), .int .u64 (wv3 ((Q ((i) - 1)).y)), .int .u64 (wv2 ((Q ((i) - 1)).y)), .int .u64 (wv1 ((Q ((i) - 1)).y)), .int .u64 (wv0 ((Q ((i) - 1)).y)), .int .u64 (wv3 ((Q ((i) - 1)).u)), .int .u64 (wv2 ((Q ((i) - 1)).u)), .int .u64 (wv1 ((Q ((i) - 1)).u)), .int .u64 (wv0 ((Q ((i) - 1)).u))] ∧ fr 40 = .agg #[.bool nr29, .slice A30 n31 c32, .bool nr33, .slice A34 n35 c36, .bool nr37, .slice A38 n39 c40] ∧ fr 41 = .slice (some ⟨g20, o21, none⟩) l c ∧ fr 42 = .int .i64 ((i : Int)) ∧ fr 43 = .pointer (some ⟨g20, o21 + i * 13, none⟩) ∧ fr 44 = .pointer (some ⟨g20, o21 + (i * 13), none⟩) ∧ fr 45 = .agg #[.int .u64 (wv3 ((Q i).x)), .int .u64 (wv2 ((Q i).x)), .int .u64 (wv1 ((Q i).x)), .int .u64 (wv0 ((Q i).x)), .int .u64 (wv3 ((Q i).y)), .int .u64 (wv2 ((Q i).y)), .int .u64 (wv1 ((Q i).y)), .int .u64 (wv0 ((Q i).y)), .int .u64 (wv3 ((Q i).u)), .int .u64 (wv2 ((Q i).u)), .int .u64 (wv1 ((Q i).u)), .int .u64 (wv0 ((Q i).u))] ∧ fr 46 = .agg #[.bool nr48, .slice A49 n50 c51, .bool nr52, .slice A53 n54 c55, .bool nr56, .slice A57 n58 c59] ∧ fr 47 = .int .i64 (pc (((Q ((i) - 1)).x)) (((Q ((i) - 1)).y)) (((Q ((i) - 1)).u)) (((Q i).x)) (((Q i).y)) (((Q i).u))) ∧ fr 48 = .bool (decide (0 ≤ (pc (((Q ((i) - 1)).x)) (((Q ((i) - 1)).y)) (((Q ((i) - 1)).u)) (((Q i).x)) (((Q i).y)) (((Q i).u))))) ∧ fr 49 = .bool (decide (0 ≤ (pc (((Q ((i) - 1)).x)) (((Q ((i) - 1)).y)) (((Q ((i) - 1)).u)) (((Q i).x)) (((Q i).y)) (((Q i).u))))) ∧ fr 50 = .bool (decide (0 ≤ (pc (((Q ((i) - 1)).x)) (((Q ((i) - 1)).y)) (((Q ((i) - 1)).u)) (((Q i).x)) (((Q i).y)) (((Q i).u))))) ∧ Below w.heap.size w wl ∧ (k ≤ (Q i).es.length) ∧ (∀ q, q < k → riseAt (Q i).es q)) ((Q i).es.length - 0) ⟨0, rfl, f7, f8, (vi (by omega)), rfl, rfl, rfl, rfl, rfl, rfl, rfl, rfl, rfl, rfl, rfl, rfl, rfl, rfl, rfl, rfl, rfl, rfl, rfl, rfl, rfl, rfl, rfl, rfl, rfl, rfl, rfl, rfl, rfl, rfl, rfl, rfl, rfl, rfl, rfl, rfl, rfl, rfl, rfl, rfl, rfl, E72, (Nat.zero_le _), (fun q hq => absurd hq (by omega))⟩ ?_
             intro d79 fr78 w75 hI76 ih77
             obtain ⟨k, hd125, f80, f81, f82, f83, f84, f85, f86, f87, f88, f89, f90, f91, f92, f93, f94, f95, f96, f97, f98, f99, f100, f101, f102, f103, f104, f105, f106, f107, f108, f109, f110, f111, f112, f113, f114, f115, f116, f117, f118, f119, f120, f121, f122, f123, E124, hk_, hin⟩ := hI76
             refine rk_seq ?_
             refine rk_seq ?_
             refine rk_reg ?_
             refine lw_v (.int .i64 ((k : Int))) (dv_move (T rfl f82)) ?_
             refine lw_v (.slice (some ⟨g20, o21, none⟩) l c) (dv_move (T rfl f80)) ?_
             refine lw_v (.int .i64 ((i : Int))) (dv_move (T rfl f81)) ?_
             refine lw_v (.pointer (some ⟨g20, o21 + i * 13, none⟩)) (dv_indexM (g := g20) (o := o21) (l := l) (c := c) (i := i) (j := (i : Int)) (m := 13) us46 sz52 (T rfl rfl) (T rfl rfl) (by omega) (by first | omega | (simp; done) | (simp; omega))) ?_
             refine lw_v (.pointer (some ⟨g20, o21 + (i * 13 + 12), none⟩)) (dv_fieldW (g := g20) (o := o21) (i := i * 13) fo52_1 (T rfl rfl)) ?_
             have h126 := (hx.ext E124)
             refine lw_v (.slice As11 ((Q i).es.length) cs12) (dv_load agt50 (T rfl rfl) (NR.slA (i := i) h126 (by first | omega | (simp; done) | (simp; omega)) hAs13 hcs14)) ?_
             refine lw_v (.int .i64 (((Q i).es.length : Int))) (dv_len (ad := As11) (l := (Q i).es.length) (c := cs12) us50 (T rfl rfl)) ?_
             refine lw_v (.bool (decide (((k : Int)) < (((Q i).es.length : Int))))) (dv_lss (a := (k : Int)) (b := ((Q i).es.length : Int)) (T rfl rfl) (T rfl rfl)) ?_
             refine lw_nil ?_
             by_cases hb127 : ((k : Int)) < (((Q i).es.length : Int))
             · refine rk_ct (T rfl (congrArg Value.bool (decide_eq_true hb127))) ?_
               refine rk_skip ?_
               refine rk_seq ?_
               refine rk_block ?_
               refine rk_seq ?_
               refine rk_any (fun w => NR w lo hi (some ⟨g20, o21, none⟩) l (fun i_ => evW (Q i_)) (fun i_ => (Q i_).es) SL ∧ RdI w .i64 As11 ((Q i).es)) [] mo ?_
               intro w128 d129
               have E130 := below_ext E124 E124.size d129.ext
               have h131 := (h126.ext d129.ext)
               refine aw_pure 0 (.slice (some ⟨g20, o21, none⟩) l c) rfl (by kernel_rfl) .none ⟨h131, (NR.rdA (i := i) h131 (by first | omega | (simp; done) | (simp; omega)) hAs13)⟩ (fun _ => dv_move (T rfl f80)) ?_
               refine aw_pure 1 (.int .i64 ((i : Int))) rfl (by kernel_rfl) .none ⟨h131, (NR.rdA (i := i) h131 (by first | omega | (simp; done) | (simp; omega)) hAs13)⟩ (fun _ => dv_move (T rfl f81)) ?_
               refine aw_pure 2 (.pointer (some ⟨g20, o21 + i * 13, none⟩)) rfl (by kernel_rfl) .none ⟨h131, (NR.rdA (i := i) h131 (by first | omega | (simp; done) | (simp; omega)) hAs13)⟩ (fun _ => dv_indexM (g := g20) (o := o21) (l := l) (c := c) (i := i) (j := (i : Int)) (m := 13) us46 sz52 (T rfl rfl) (T rfl rfl) (by omega) (by first | omega | (simp; done) | (simp; omega))) ?_
               refine aw_pure 3 (.pointer (some ⟨g20, o21 + (i * 13 + 12), none⟩)) rfl (by kernel_rfl) .none ⟨h131, (NR.rdA (i := i) h131 (by first | omega | (simp; done) | (simp; omega)) hAs13)⟩ (fun _ => dv_fieldW (g := g20) (o := o21) (i := i * 13) fo52_1 (T rfl rfl)) ?_
               refine aw_load 4 (.slice As11 ((Q i).es.length) cs12) rfl (by kernel_rfl) .none ⟨h131, (NR.rdA (i := i) h131 (by first | omega | (simp; done) | (simp; omega)) hAs13)⟩ (fun _ s => dv_load agt50 (T rfl rfl) (NR.slA (i := i) s.1 (by first | omega | (simp; done) | (simp; omega)) hAs13 hcs14)) ?_
               refine aw_pure 5 (.int .i64 ((k : Int))) rfl (by kernel_rfl) .none ⟨h131, (NR.rdA (i := i) h131 (by first | omega | (simp; done) | (simp; omega)) hAs13)⟩ (fun _ => dv_move (T rfl f82)) ?_
               obtain ⟨g132, o133, rfl⟩ := RdI.at (NR.rdA (i := i) h131 (by first | omega | (simp; done) | (simp; omega)) hAs13) (by first | omega | (simp; done) | (simp; omega))
               refine aw_pure 6 (.pointer (some ⟨g132, o133 + k, none⟩)) rfl (by kernel_rfl) .none ⟨h131, (NR.rdA (i := i) h131 (by first | omega | (simp; done) | (simp; omega)) hAs13)⟩ (fun _ => dv_indexW (g := g132) (o := o133) (l := (Q i).es.length) (c := cs12) (i := k) (j := (k : Int)) us50 sz2 (T rfl rfl) (T rfl rfl) (by omega) (by first | omega | (simp; done) | (simp; omega))) ?_
               refine aw_load 7 (.int .i64 (((Q i).es).getD k 0)) rfl (by kernel_rfl) .none ⟨h131, (NR.rdA (i := i) h131 (by first | omega | (simp; done) | (simp; omega)) hAs13)⟩ (fun _ s => dv_load agt2 (T rfl rfl) (RdI.cell s.2 (by first | omega | (simp; done) | (simp; omega)))) ?_
               refine aw_one 8 rfl (by kernel_rfl) .none (oe_callf (vs := [.int .i64 (((Q i).es).getD k 0), .int .i64 0, .int .i64 39]) co53 (ar3 (T rfl rfl) C C) (l1In_ok (n := ((Q i).es).getD k 0) (lo := 0) (hi := 39)  ) ?_)
               rintro _ w134 ⟨rfl, e135⟩
               have E136 := below_ext E130 E130.size e135
               have h137 := (h131.ext e135)
               refine ⟨.inr ⟨h137, (NR.rdA (i := i) h137 (by first | omega | (simp; done) | (simp; omega)) hAs13)⟩, ?_⟩
               refine aw_pure 9 (.bool (decide (¬ ((0 : Int) ≤ (((Q i).es).getD k 0) ∧ (((Q i).es).getD k 0) ≤ (39 : Int))))) rfl (by kernel_rfl) .none ⟨h137, (NR.rdA (i := i) h137 (by first | omega | (simp; done) | (simp; omega)) hAs13)⟩ (fun _ => dv_notd (p := (0 : Int) ≤ (((Q i).es).getD k 0) ∧ (((Q i).es).getD k 0) ≤ (39 : Int)) (T rfl rfl)) ?_
               refine aw_pure 10 (.bool (decide (¬ ((0 : Int) ≤ (((Q i).es).getD k 0) ∧ (((Q i).es).getD k 0) ≤ (39 : Int))))) rfl (by kernel_rfl) .none ⟨h137, (NR.rdA (i := i) h137 (by first | omega | (simp; done) | (simp; omega)) hAs13)⟩ (fun _ => dv_move (T rfl rfl)) ?_
               by_cases hb138 : (0 : Int) ≤ (((Q i).es).getD k 0) ∧ (((Q i).es).getD k 0) ≤ (39 : Int)
               · refine aw_pure 11 (.int .i64 ((k : Int))) rfl (by kernel_rfl) (.yes (d := 71) rfl rfl (congrArg Value.bool (decide_eq_false (not_not_intro hb138)))) ⟨h137, (NR.rdA (i := i) h137 (by first | omega | (simp; done) | (simp; omega)) hAs13)⟩ (fun _ => dv_move (T rfl f82)) ?_
                 refine aw_pure 12 (.bool (decide (0 < ((k : Int))))) rfl (by kernel_rfl) (.yes (d := 71) rfl rfl (congrArg Value.bool (decide_eq_false (not_not_intro hb138)))) ⟨h137, (NR.rdA (i := i) h137 (by first | omega | (simp; done) | (simp; omega)) hAs13)⟩ (fun _ => dv_gtr (a := (k : Int)) (b := 0) (T rfl rfl) C) ?_
                 refine aw_pure 13 (.bool (decide (0 < ((k : Int))))) rfl (by kernel_rfl) (.yes (d := 71) rfl rfl (congrArg Value.bool (decide_eq_false (not_not_intro hb138)))) ⟨h137, (NR.rdA (i := i) h137 (by first | omega | (simp; done) | (simp; omega)) hAs13)⟩ (fun _ => dv_move (T rfl rfl)) ?_
                 by_cases hb139 : 0 < ((k : Int))
                 · refine aw_pure 14 (.slice (some ⟨g20, o21, none⟩) l c) rfl (by kernel_rfl) (.yes (d := 74) rfl rfl (congrArg Value.bool (decide_eq_true hb139))) ⟨h137, (NR.rdA (i := i) h137 (by first | omega | (simp; done) | (simp; omega)) hAs13)⟩ (fun _ => dv_move (T rfl f80)) ?_
                   refine aw_pure 15 (.int .i64 ((i : Int))) rfl (by kernel_rfl) (.yes (d := 74) rfl rfl (congrArg Value.bool (decide_eq_true hb139))) ⟨h137, (NR.rdA (i := i) h137 (by first | omega | (simp; done) | (simp; omega)) hAs13)⟩ (fun _ => dv_move (T rfl f81)) ?_
                   refine aw_pure 16 (.pointer (some ⟨g20, o21 + i * 13, none⟩)) rfl (by kernel_rfl) (.yes (d := 74) rfl rfl (congrArg Value.bool (decide_eq_true hb139))) ⟨h137, (NR.rdA (i := i) h137 (by first | omega | (simp; done) | (simp; omega)) hAs13)⟩ (fun _ => dv_indexM (g := g20) (o := o21) (l := l) (c := c) (i := i) (j := (i : Int)) (m := 13) us46 sz52 (T rfl rfl) (T rfl rfl) (by omega) (by first | omega | (simp; done) | (simp; omega))) ?_
                   refine aw_pure 17 (.pointer (some ⟨g20, o21 + (i * 13 + 12), none⟩)) rfl (by kernel_rfl) (.yes (d := 74) rfl rfl (congrArg Value.bool (decide_eq_true hb139))) ⟨h137, (NR.rdA (i := i) h137 (by first | omega | (simp; done) | (simp; omega)) hAs13)⟩ (fun _ => dv_fieldW (g := g20) (o := o21) (i := i * 13) fo52_1 (T rfl rfl)) ?_
                   refine aw_load 18 (.slice (some ⟨g132, o133, none⟩) ((Q i).es.length) cs12) rfl (by kernel_rfl) (.yes (d := 74) rfl rfl (congrArg Value.bool (decide_eq_true hb139))) ⟨h137, (NR.rdA (i := i) h137 (by first | omega | (simp; done) | (simp; omega)) hAs13)⟩ (fun _ s => dv_load agt50 (T rfl rfl) (NR.slA (i := i) s.1 (by first | omega | (simp; done) | (simp; omega)) hAs13 hcs14)) ?_
                   refine aw_pure 19 (.int .i64 ((k : Int))) rfl (by kernel_rfl) (.yes (d := 74) rfl rfl (congrArg Value.bool (decide_eq_true hb139))) ⟨h137, (NR.rdA (i := i) h137 (by first | omega | (simp; done) | (simp; omega)) hAs13)⟩ (fun _ => dv_move (T rfl f82)) ?_
                   refine aw_pure 20 (.int .i64 (((k : Int)) - 1)) rfl (by kernel_rfl) (.yes (d := 74) rfl rfl (congrArg Value.bool (decide_eq_true hb139))) ⟨h137, (NR.rdA (i := i) h137 (by first | omega | (simp; done) | (simp; omega)) hAs13)⟩ (fun _ => dv_sub (a := (k : Int)) (b := 1) (z := ((k : Int)) - 1) (T rfl rfl) C (wr_i64 (by omega) (by omega))) ?_
                   refine aw_pure 21 (.pointer (some ⟨g132, o133 + ((k) - 1), none⟩)) rfl (by kernel_rfl) (.yes (d := 74) rfl rfl (congrArg Value.bool (decide_eq_true hb139))) ⟨h137, (NR.rdA (i := i) h137 (by first | omega | (simp; done) | (simp; omega)) hAs13)⟩ (fun _ => dv_indexW (g := g132) (o := o133) (l := (Q i).es.length) (c := cs12) (i := ((k) - 1)) (j := ((k : Int)) - 1) us50 sz2 (T rfl rfl) (T rfl rfl) (by omega) (by first | omega | (simp; done) | (simp; omega))) ?_
                   refine aw_load 22 (.int .i64 (((Q i).es).getD (((k) - 1)) 0)) rfl (by kernel_rfl) (.yes (d := 74) rfl rfl (congrArg Value.bool (decide_eq_true hb139))) ⟨h137, (NR.rdA (i := i) h137 (by first | omega | (simp; done) | (simp; omega)) hAs13)⟩ (fun _ s => dv_load agt2 (T rfl rfl) (RdI.cell s.2 (by first | omega | (simp; done) | (simp; omega)))) ?_
                   refine aw_pure 23 (.slice (some ⟨g20, o21, none⟩) l c) rfl (by kernel_rfl) (.yes (d := 74) rfl rfl (congrArg Value.bool (decide_eq_true hb139))) ⟨h137, (NR.rdA (i := i) h137 (by first | omega | (simp; done) | (simp; omega)) hAs13)⟩ (fun _ => dv_move (T rfl f80)) ?_
                   refine aw_pure 24 (.int .i64 ((i : Int))) rfl (by kernel_rfl) (.yes (d := 74) rfl rfl (congrArg Value.bool (decide_eq_true hb139))) ⟨h137, (NR.rdA (i := i) h137 (by first | omega | (simp; done) | (simp; omega)) hAs13)⟩ (fun _ => dv_move (T rfl f81)) ?_
                   refine aw_pure 25 (.pointer (some ⟨g20, o21 + i * 13, none⟩)) rfl (by kernel_rfl) (.yes (d := 74) rfl rfl (congrArg Value.bool (decide_eq_true hb139))) ⟨h137, (NR.rdA (i := i) h137 (by first | omega | (simp; done) | (simp; omega)) hAs13)⟩ (fun _ => dv_indexM (g := g20) (o := o21) (l := l) (c := c) (i := i) (j := (i : Int)) (m := 13) us46 sz52 (T rfl rfl) (T rfl rfl) (by omega) (by first | omega | (simp; done) | (simp; omega))) ?_
                   refine aw_pure 26 (.pointer (some ⟨g20, o21 + (i * 13 + 12), none⟩)) rfl (by kernel_rfl) (.yes (d := 74) rfl rfl (congrArg Value.bool (decide_eq_true hb139))) ⟨h137, (NR.rdA (i := i) h137 (by first | omega | (simp; done) | (simp; omega)) hAs13)⟩ (fun _ => dv_fieldW (g := g20) (o := o21) (i := i * 13) fo52_1 (T rfl rfl)) ?_
                   refine aw_load 27 (.slice (some ⟨g132, o133, none⟩) ((Q i).es.length) cs12) rfl (by kernel_rfl) (.yes (d := 74) rfl rfl (congrArg Value.bool (decide_eq_true hb139))) ⟨h137, (NR.rdA (i := i) h137 (by first | omega | (simp; done) | (simp; omega)) hAs13)⟩ (fun _ s => dv_load agt50 (T rfl rfl) (NR.slA (i := i) s.1 (by first | omega | (simp; done) | (simp; omega)) hAs13 hcs14)) ?_
                   refine aw_pure 28 (.int .i64 ((k : Int))) rfl (by kernel_rfl) (.yes (d := 74) rfl rfl (congrArg Value.bool (decide_eq_true hb139))) ⟨h137, (NR.rdA (i := i) h137 (by first | omega | (simp; done) | (simp; omega)) hAs13)⟩ (fun _ => dv_move (T rfl f82)) ?_
                   refine aw_pure 29 (.pointer (some ⟨g132, o133 + k, none⟩)) rfl (by kernel_rfl) (.yes (d := 74) rfl rfl (congrArg Value.bool (decide_eq_true hb139))) ⟨h137, (NR.rdA (i := i) h137 (by first | omega | (simp; done) | (simp; omega)) hAs13)⟩ (fun _ => dv_indexW (g := g132) (o := o133) (l := (Q i).es.length) (c := cs12) (i := k) (j := (k : Int)) us50 sz2 (T rfl rfl) (T rfl rfl) (by omega) (by first | omega | (simp; done) | (simp; omega))) ?_
                   refine aw_load 30 (.int .i64 (((Q i).es).getD k 0)) rfl (by kernel_rfl) (.yes (d := 74) rfl rfl (congrArg Value.bool (decide_eq_true hb139))) ⟨h137, (NR.rdA (i := i) h137 (by first | omega | (simp; done) | (simp; omega)) hAs13)⟩ (fun _ s => dv_load agt2 (T rfl rfl) (RdI.cell s.2 (by first | omega | (simp; done) | (simp; omega)))) ?_
                   refine aw_pure 31 (.bool (decide ((((Q i).es).getD k 0) ≤ (((Q i).es).getD (((k) - 1)) 0)))) rfl (by kernel_rfl) (.yes (d := 74) rfl rfl (congrArg Value.bool (decide_eq_true hb139))) ⟨h137, (NR.rdA (i := i) h137 (by first | omega | (simp; done) | (simp; omega)) hAs13)⟩ (fun _ => dv_geq (a := ((Q i).es).getD (((k) - 1)) 0) (b := ((Q i).es).getD k 0) (T rfl rfl) (T rfl rfl)) ?_
                   refine aw_pure 32 (.bool (decide ((((Q i).es).getD k 0) ≤ (((Q i).es).getD (((k) - 1)) 0)))) rfl (by kernel_rfl) (.yes (d := 71) rfl rfl (congrArg Value.bool (decide_eq_false (not_not_intro hb138)))) ⟨h137, (NR.rdA (i := i) h137 (by first | omega | (simp; done) | (simp; omega)) hAs13)⟩ (fun _ => dv_pick_t (T rfl (congrArg Value.bool (decide_eq_true hb139))) (T rfl rfl)) ?_
                   refine aw_pure 33 (.bool (decide ((((Q i).es).getD k 0) ≤ (((Q i).es).getD (((k) - 1)) 0)))) rfl (by kernel_rfl) .none ⟨h137, (NR.rdA (i := i) h137 (by first | omega | (simp; done) | (simp; omega)) hAs13)⟩ (fun _ => dv_pick_f (T rfl (congrArg Value.bool (decide_eq_false (not_not_intro hb138)))) (T rfl rfl)) ?_
                   refine aw_done (by kernel_rfl) ?_
                   by_cases hb140 : (((Q i).es).getD k 0) ≤ (((Q i).es).getD (((k) - 1)) 0)
                   · refine rk_ct (T rfl (congrArg Value.bool (decide_eq_true hb140))) ?_
                     refine rk_seq ?_
                     refine rk_reg ?_
                     refine lw_v (.bool false) (dv_assign C) ?_
                     refine lw_nil ?_
                     refine rk_ret Try.func16 (v := .bool false) (res1 Try.results16 (rv_tmp rfl rfl)) ⟨_, rfl, ?_⟩
                     exact ⟨(vf (fun hh_ => by have hh := (hh_.2 i (by omega)).2.2.1 k (by omega); first | exact absurd hh.1 (by assumption) | (have h2_ := hh.2 (by omega); omega) | (have h1_ := hh.1; omega))), E136⟩
                   · refine rk_cf (T rfl (congrArg Value.bool (decide_eq_false hb140))) ?_
                     refine rk_skip ?_
                     refine rk_inBlock ?_
                     refine rk_reg ?_
                     refine lw_v (.int .i64 ((k : Int))) (dv_move (T rfl f82)) ?_
                     refine lw_v (.int .i64 (((k : Int)) + 1)) (dv_add (a := (k : Int)) (b := 1) (z := ((k : Int)) + 1) (T rfl rfl) C (wr_i64 (by omega) (by omega))) ?_
                     refine lw_v (.int .i64 (((k : Int)) + 1)) (dv_assign (T rfl rfl)) ?_
                     refine lw_nil ?_
                     exact ih77 ((Q i).es.length - ((k + 1))) _ _ (by rw [hd125]; omega) ⟨(k + 1), rfl, f80, f81, (vi (by omega)), f83, f84, f85, f86, f87, f88, f89, f90, f91, f92, f93, f94, f95, f96, f97, f98, f99, f100, f101, f102, f103, f104, f105, f106, f107, f108, f109, f110, f111, f112, f113, f114, f115, f116, f117, f118, f119, f120, f121, f122, f123, E136, (by omega), (all_step hin ⟨(by first | assumption | exact Decidable.not_not.1 (by assumption)), fun h0_ => by first | omega | (exfalso; omega)⟩)⟩
                 · refine aw_no 14 rfl (by kernel_rfl) (d := 74) rfl rfl (congrArg Value.bool (decide_eq_false hb139)) ⟨h137, (NR.rdA (i := i) h137 (by first | omega | (simp; done) | (simp; omega)) hAs13)⟩ ?_
                   refine aw_no 15 rfl (by kernel_rfl) (d := 74) rfl rfl (congrArg Value.bool (decide_eq_false hb139)) ⟨h137, (NR.rdA (i := i) h137 (by first | omega | (simp; done) | (simp; omega)) hAs13)⟩ ?_
                   refine aw_no 16 rfl (by kernel_rfl) (d := 74) rfl rfl (congrArg Value.bool (decide_eq_false hb139)) ⟨h137, (NR.rdA (i := i) h137 (by first | omega | (simp; done) | (simp; omega)) hAs13)⟩ ?_
                   refine aw_no 17 rfl (by kernel_rfl) (d := 74) rfl rfl (congrArg Value.bool (decide_eq_false hb139)) ⟨h137, (NR.rdA (i := i) h137 (by first | omega | (simp; done) | (simp; omega)) hAs13)⟩ ?_
                   refine aw_no 18 rfl (by kernel_rfl) (d := 74) rfl rfl (congrArg Value.bool (decide_eq_false hb139)) ⟨h137, (NR.rdA (i := i) h137 (by first | omega | (simp; done) | (simp; omega)) hAs13)⟩ ?_
                   refine aw_no 19 rfl (by kernel_rfl) (d := 74) rfl rfl (congrArg Value.bool (decide_eq_false hb139)) ⟨h137, (NR.rdA (i := i) h137 (by first | omega | (simp; done) | (simp; omega)) hAs13)⟩ ?_
                   refine aw_no 20 rfl (by kernel_rfl) (d := 74) rfl rfl (congrArg Value.bool (decide_eq_false hb139)) ⟨h137, (NR.rdA (i := i) h137 (by first | omega | (simp; done) | (simp; omega)) hAs13)⟩ ?_
                   refine aw_no 21 rfl (by kernel_rfl) (d := 74) rfl rfl (congrArg Value.bool (decide_eq_false hb139)) ⟨h137, (NR.rdA (i := i) h137 (by first | omega | (simp; done) | (simp; omega)) hAs13)⟩ ?_
                   refine aw_no 22 rfl (by kernel_rfl) (d := 74) rfl rfl (congrArg Value.bool (decide_eq_false hb139)) ⟨h137, (NR.rdA (i := i) h137 (by first | omega | (simp; done) | (simp; omega)) hAs13)⟩ ?_
                   refine aw_no 23 rfl (by kernel_rfl) (d := 74) rfl rfl (congrArg Value.bool (decide_eq_false hb139)) ⟨h137, (NR.rdA (i := i) h137 (by first | omega | (simp; done) | (simp; omega)) hAs13)⟩ ?_
                   refine aw_no 24 rfl (by kernel_rfl) (d := 74) rfl rfl (congrArg Value.bool (decide_eq_false hb139)) ⟨h137, (NR.rdA (i := i) h137 (by first | omega | (simp; done) | (simp; omega)) hAs13)⟩ ?_
                   refine aw_no 25 rfl (by kernel_rfl) (d := 74) rfl rfl (congrArg Value.bool (decide_eq_false hb139)) ⟨h137, (NR.rdA (i := i) h137 (by first | omega | (simp; done) | (simp; omega)) hAs13)⟩ ?_
                   refine aw_no 26 rfl (by kernel_rfl) (d := 74) rfl rfl (congrArg Value.bool (decide_eq_false hb139)) ⟨h137, (NR.rdA (i := i) h137 (by first | omega | (simp; done) | (simp; omega)) hAs13)⟩ ?_
                   refine aw_no 27 rfl (by kernel_rfl) (d := 74) rfl rfl (congrArg Value.bool (decide_eq_false hb139)) ⟨h137, (NR.rdA (i := i) h137 (by first | omega | (simp; done) | (simp; omega)) hAs13)⟩ ?_
                   refine aw_no 28 rfl (by kernel_rfl) (d := 74) rfl rfl (congrArg Value.bool (decide_eq_false hb139)) ⟨h137, (NR.rdA (i := i) h137 (by first | omega | (simp; done) | (simp; omega)) hAs13)⟩ ?_
                   refine aw_no 29 rfl (by kernel_rfl) (d := 74) rfl rfl (congrArg Value.bool (decide_eq_false hb139)) ⟨h137, (NR.rdA (i := i) h137 (by first | omega | (simp; done) | (simp; omega)) hAs13)⟩ ?_
                   refine aw_no 30 rfl (by kernel_rfl) (d := 74) rfl rfl (congrArg Value.bool (decide_eq_false hb139)) ⟨h137, (NR.rdA (i := i) h137 (by first | omega | (simp; done) | (simp; omega)) hAs13)⟩ ?_
                   refine aw_no 31 rfl (by kernel_rfl) (d := 74) rfl rfl (congrArg Value.bool (decide_eq_false hb139)) ⟨h137, (NR.rdA (i := i) h137 (by first | omega | (simp; done) | (simp; omega)) hAs13)⟩ ?_
                   refine aw_pure 32 (.bool false) rfl (by kernel_rfl) (.yes (d := 71) rfl rfl (congrArg Value.bool (decide_eq_false (not_not_intro hb138)))) ⟨h137, (NR.rdA (i := i) h137 (by first | omega | (simp; done) | (simp; omega)) hAs13)⟩ (fun _ => dv_pick_f (T rfl (congrArg Value.bool (decide_eq_false hb139))) C) ?_
                   refine aw_pure 33 (.bool false) rfl (by kernel_rfl) .none ⟨h137, (NR.rdA (i := i) h137 (by first | omega | (simp; done) | (simp; omega)) hAs13)⟩ (fun _ => dv_pick_f (T rfl (congrArg Value.bool (decide_eq_false (not_not_intro hb138)))) (T rfl rfl)) ?_
                   refine aw_done (by kernel_rfl) ?_
                   refine rk_cf (T rfl rfl) ?_
                   refine rk_skip ?_
                   refine rk_inBlock ?_
                   refine rk_reg ?_
                   refine lw_v (.int .i64 ((k : Int))) (dv_move (T rfl f82)) ?_
                   refine lw_v (.int .i64 (((k : Int)) + 1)) (dv_add (a := (k : Int)) (b := 1) (z := ((k : Int)) + 1) (T rfl rfl) C (wr_i64 (by omega) (by omega))) ?_
                   refine lw_v (.int .i64 (((k : Int)) + 1)) (dv_assign (T rfl rfl)) ?_
                   refine lw_nil ?_
                   exact ih77 ((Q i).es.length - ((k + 1))) _ _ (by rw [hd125]; omega) ⟨(k + 1), rfl, f80, f81, (vi (by omega)), f83, f84, f85, f86, f87, f88, f89, f90, f91, f92, f93, f94, f95, f96, f97, f98, f99, f100, f101, f102, f103, f104, f105, f106, f107, f108, f109, f110, f111, f112, f113, f114, f115, f116, f117, f118, f119, f120, f121, f122, f123, E136, (by omega), (all_step hin ⟨(by first | assumption | exact Decidable.not_not.1 (by assumption)), fun h0_ => by first | omega | (exfalso; omega)⟩)⟩
               · refine aw_no 11 rfl (by kernel_rfl) (d := 71) rfl rfl (congrArg Value.bool (decide_eq_true hb138)) ⟨h137, (NR.rdA (i := i) h137 (by first | omega | (simp; done) | (simp; omega)) hAs13)⟩ ?_
                 refine aw_no 12 rfl (by kernel_rfl) (d := 71) rfl rfl (congrArg Value.bool (decide_eq_true hb138)) ⟨h137, (NR.rdA (i := i) h137 (by first | omega | (simp; done) | (simp; omega)) hAs13)⟩ ?_
                 refine aw_no 13 rfl (by kernel_rfl) (d := 71) rfl rfl (congrArg Value.bool (decide_eq_true hb138)) ⟨h137, (NR.rdA (i := i) h137 (by first | omega | (simp; done) | (simp; omega)) hAs13)⟩ ?_
                 refine aw_nou 14 rfl (by kernel_rfl) (d := 74) rfl rfl ⟨h137, (NR.rdA (i := i) h137 (by first | omega | (simp; done) | (simp; omega)) hAs13)⟩ ?_
                 refine aw_nou 15 rfl (by kernel_rfl) (d := 74) rfl rfl ⟨h137, (NR.rdA (i := i) h137 (by first | omega | (simp; done) | (simp; omega)) hAs13)⟩ ?_
                 refine aw_nou 16 rfl (by kernel_rfl) (d := 74) rfl rfl ⟨h137, (NR.rdA (i := i) h137 (by first | omega | (simp; done) | (simp; omega)) hAs13)⟩ ?_
                 refine aw_nou 17 rfl (by kernel_rfl) (d := 74) rfl rfl ⟨h137, (NR.rdA (i := i) h137 (by first | omega | (simp; done) | (simp; omega)) hAs13)⟩ ?_
                 refine aw_nou 18 rfl (by kernel_rfl) (d := 74) rfl rfl ⟨h137, (NR.rdA (i := i) h137 (by first | omega | (simp; done) | (simp; omega)) hAs13)⟩ ?_
                 refine aw_nou 19 rfl (by kernel_rfl) (d := 74) rfl rfl ⟨h137, (NR.rdA (i := i) h137 (by first | omega | (simp; done) | (simp; omega)) hAs13)⟩ ?_
                 refine aw_nou 20 rfl (by kernel_rfl) (d := 74) rfl rfl ⟨h137, (NR.rdA (i := i) h137 (by first | omega | (simp; done) | (simp; omega)) hAs13)⟩ ?_
                 refine aw_nou 21 rfl (by kernel_rfl) (d := 74) rfl rfl ⟨h137, (NR.rdA (i := i) h137 (by first | omega | (simp; done) | (simp; omega)) hAs13)⟩ ?_
                 refine aw_nou 22 rfl (by kernel_rfl) (d := 74) rfl rfl ⟨h137, (NR.rdA (i := i) h137 (by first | omega | (simp; done) | (simp; omega)) hAs13)⟩ ?_
                 refine aw_nou 23 rfl (by kernel_rfl) (d := 74) rfl rfl ⟨h137, (NR.rdA (i := i) h137 (by first | omega | (simp; done) | (simp; omega)) hAs13)⟩ ?_
                 refine aw_nou 24 rfl (by kernel_rfl) (d := 74) rfl rfl ⟨h137, (NR.rdA (i := i) h137 (by first | omega | (simp; done) | (simp; omega)) hAs13)⟩ ?_
                 refine aw_nou 25 rfl (by kernel_rfl) (d := 74) rfl rfl ⟨h137, (NR.rdA (i := i) h137 (by first | omega | (simp; done) | (simp; omega)) hAs13)⟩ ?_
                 refine aw_nou 26 rfl (by kernel_rfl) (d := 74) rfl rfl ⟨h137, (NR.rdA (i := i) h137 (by first | omega | (simp; done) | (simp; omega)) hAs13)⟩ ?_
                 refine aw_nou 27 rfl (by kernel_rfl) (d := 74) rfl rfl ⟨h137, (NR.rdA (i := i) h137 (by first | omega | (simp; done) | (simp; omega)) hAs13)⟩ ?_
                 refine aw_nou 28 rfl (by kernel_rfl) (d := 74) rfl rfl ⟨h137, (NR.rdA (i := i) h137 (by first | omega | (simp; done) | (simp; omega)) hAs13)⟩ ?_
                 refine aw_nou 29 rfl (by kernel_rfl) (d := 74) rfl rfl ⟨h137, (NR.rdA (i := i) h137 (by first | omega | (simp; done) | (simp; omega)) hAs13)⟩ ?_
                 refine aw_nou 30 rfl (by kernel_rfl) (d := 74) rfl rfl ⟨h137, (NR.rdA (i := i) h137 (by first | omega | (simp; done) | (simp; omega)) hAs13)⟩ ?_
                 refine aw_nou 31 rfl (by kernel_rfl) (d := 74) rfl rfl ⟨h137, (NR.rdA (i := i) h137 (by first | omega | (simp; done) | (simp; omega)) hAs13)⟩ ?_
                 refine aw_no 32 rfl (by kernel_rfl) (d := 71) rfl rfl (congrArg Value.bool (decide_eq_true hb138)) ⟨h137, (NR.rdA (i := i) h137 (by first | omega | (simp; done) | (simp; omega)) hAs13)⟩ ?_
                 refine aw_pure 33 (.bool true) rfl (by kernel_rfl) .none ⟨h137, (NR.rdA (i := i) h137 (by first | omega | (simp; done) | (simp; omega)) hAs13)⟩ (fun _ => dv_pick_t (T rfl (congrArg Value.bool (decide_eq_true hb138))) C) ?_
                 refine aw_done (by kernel_rfl) ?_
                 refine rk_ct (T rfl rfl) ?_
                 refine rk_seq ?_
                 refine rk_reg ?_
                 refine lw_v (.bool false) (dv_assign C) ?_
                 refine lw_nil ?_
                 refine rk_ret Try.func16 (v := .bool false) (res1 Try.results16 (rv_tmp rfl rfl)) ⟨_, rfl, ?_⟩
                 exact ⟨(vf (fun hh_ => by have hh := (hh_.2 i (by omega)).2.2.1 k (by omega); first | exact absurd hh.1 (by assumption) | (have h2_ := hh.2 (by omega); omega) | (have h1_ := hh.1; omega))), E136⟩
             · refine rk_cf (T rfl (congrArg Value.bool (decide_eq_false hb127))) ?_
               refine rk_exit rfl ?_
               refine rk_inBlock ?_
               refine rk_reg ?_
               refine lw_v (.int .i64 ((i : Int))) (dv_move (T rfl f81)) ?_
               refine lw_v (.int .i64 (((i : Int)) + 1)) (dv_add (a := (i : Int)) (b := 1) (z := ((i : Int)) + 1) (T rfl rfl) C (wr_i64 (by omega) (by omega))) ?_
               refine lw_v (.int .i64 (((i : Int)) + 1)) (dv_assign (T rfl rfl)) ?_
               refine lw_nil ?_
               exact ih4 (l - ((i + 1))) _ _ (by rw [hd10]; omega) ⟨(i + 1), rfl, f80, (vi (by omega)), E124, (by omega), (all_step hall ⟨(by first | assumption | exact Decidable.not_not.1 (by assumption)), by omega, (fun k hk => hin k (by omega)), fun h0_ => by first | omega | (exfalso; omega)⟩)⟩
         · refine aw_no 20 rfl (by kernel_rfl) (d := 33) rfl rfl (congrArg Value.bool (decide_eq_false hb28)) h25 ?_
           refine aw_no 21 rfl (by kernel_rfl) (d := 33) rfl rfl (congrArg Value.bool (decide_eq_false hb28)) h25 ?_
           refine aw_no 22 rfl (by kernel_rfl) (d := 33) rfl rfl (congrArg Value.bool (decide_eq_false hb28)) h25 ?_
           refine aw_no 23 rfl (by kernel_rfl) (d := 33) rfl rfl (congrArg Value.bool (decide_eq_false hb28)) h25 ?_
           refine aw_no 24 rfl (by kernel_rfl) (d := 33) rfl rfl (congrArg Value.bool (decide_eq_false hb28)) h25 ?_
           refine aw_no 25 rfl (by kernel_rfl) (d := 33) rfl rfl (congrArg Value.bool (decide_eq_false hb28)) h25 ?_
           refine aw_no 26 rfl (by kernel_rfl) (d := 33) rfl rfl (congrArg Value.bool (decide_eq_false hb28)) h25 ?_
           refine aw_no 27 rfl (by kernel_rfl) (d := 33) rfl rfl (congrArg Value.bool (decide_eq_false hb28)) h25 ?_
           refine aw_no 28 rfl (by kernel_rfl) (d := 33) rfl rfl (congrArg Value.bool (decide_eq_false hb28)) h25 ?_
           refine aw_no 29 rfl (by kernel_rfl) (d := 33) rfl rfl (congrArg Value.bool (decide_eq_false hb28)) h25 ?_
           refine aw_no 30 rfl (by kernel_rfl) (d := 33) rfl rfl (congrArg Value.bool (decide_eq_false hb28)) h25 ?_
           refine aw_no 31 rfl (by kernel_rfl) (d := 33) rfl rfl (congrArg Value.bool (decide_eq_false hb28)) h25 ?_
           refine aw_no 32 rfl (by kernel_rfl) (d := 33) rfl rfl (congrArg Value.bool (decide_eq_false hb28)) h25 ?_
           refine aw_no 33 rfl (by kernel_rfl) (d := 33) rfl rfl (congrArg Value.bool (decide_eq_false hb28)) h25 ?_
           refine aw_no 34 rfl (by kernel_rfl) (d := 33) rfl rfl (congrArg Value.bool (decide_eq_false hb28)) h25 ?_
           refine aw_pure 35 (.bool false) rfl (by kernel_rfl) (.yes (d := 30) rfl rfl (congrArg Value.bool (decide_eq_false hb27))) h25 (fun _ => dv_pick_f (T rfl (congrArg Value.bool (decide_eq_false hb28))) C) ?_
           refine aw_pure 36 (.bool false) rfl (by kernel_rfl) .none h25 (fun _ => dv_pick_f (T rfl (congrArg Value.bool (decide_eq_false hb27))) (T rfl rfl)) ?_
           refine aw_done (by kernel_rfl) ?_
           refine rk_cf (T rfl rfl) ?_
           refine rk_skip ?_
           refine rk_seq ?_
           refine rk_reg ?_
           refine lw_v (.int .i64 0) (dv_assign C) ?_
           refine lw_nil ?_
           refine rk_block ?_
           refine rk_loop (fun dm_ fr wl => ∃ (k : Nat), dm_ = (Q i).es.length - k ∧ fr 0 = .slice (some ⟨g20, o21, none⟩) l c ∧ fr 3 = .int .i64 ((i : Int)) ∧ fr 4 = .int .i64 ((k : Int)) ∧ fr 8 = .int .i64 ((i : Int)) ∧ fr 9 = .slice (some ⟨g20, o21, none⟩) l c ∧ fr 10 = .int .i64 ((l : Int)) ∧ fr 11 = .bool (decide (((i : Int)) < ((l : Int)))) ∧ fr 14 = .slice (some ⟨g20, o21, none⟩) l c ∧ fr 15 = .int .i64 ((i : Int)) ∧ fr 16 = .pointer (some ⟨g20, o21 + i * 13, none⟩) ∧ fr 17 = .pointer (some ⟨g20, o21 + (i * 13), none⟩) ∧ fr 18 = .agg #[.int .u64 (wv3 ((Q i).x)), .int .u64 (wv2 ((Q i).x)), .int .u64 (wv1 ((Q i).x)), .int .u64 (wv0 ((Q i).x)), .int .u64 (wv3 ((Q i).y)), .int .u64 (wv2 ((Q i).y)), .int .u64 (wv1 ((Q i).y)), .int .u64 (wv0 ((Q i).y)), .int .u64 (wv3 ((Q i).u)), .int .u64 (wv2 ((Q i).u)), .int .u64 (wv1 ((Q i).u)), .int .u64 (wv0 ((Q i).u))] ∧ fr 19 = .bool (decide (pOk ((Q i).x) ((Q i).y) ((Q i).u))) ∧ fr 20 = .bool (decide (¬ (pOk ((Q i).x) ((Q i).y) ((Q i).u)))) ∧ fr 21 = .bool (decide (¬ (pOk ((Q i).x) ((Q i).y) ((Q i).u)))) ∧ fr 22 = .slice (some ⟨g20, o21, none⟩) l c ∧ fr 23 = .int .i64 ((i : Int)) ∧ fr 24 = .pointer (some ⟨g20, o21 + i * 13, none⟩) ∧ fr 25 = .pointer (some ⟨g20, o21 + (i * 13 + 12), none⟩) ∧ fr 26 = .slice As11 ((Q i).es.length) cs12 ∧ fr 27 = .int .i64 (((Q i).es.length : Int)) ∧ fr 28 = .bool (decide ((((Q i).es.length : Int)) < 1)) ∧ fr 29 = .bool (decide ((((Q i).es.length : Int)) < 1)) ∧ fr 30 = .bool (decide ((((Q i).es.length : Int)) < 1)) ∧ fr 31 = .int .i64 ((i : Int)) ∧ fr 32 = .bool (decide (0 < ((i : Int)))) ∧ fr 33 = .bool (decide (0 < ((i : Int)))) ∧ fr 49 = .bool false ∧ fr 50 = .bool false ∧ Below w.heap.size w wl ∧ (k ≤ (Q i).es.length) ∧ (∀ q, q < k → riseAt (Q i).es q)) ((Q i).es.length - 0) ⟨0, rfl, f7, f8, (vi (by omega)), rfl, rfl, rfl, rfl, rfl, rfl, rfl, rfl, rfl, rfl, rfl, rfl, rfl, rfl, rfl, rfl, rfl, rfl, rfl, rfl, rfl, rfl, rfl, rfl, rfl, rfl, E24, (Nat.zero_le _), (fun q hq => absurd hq (by omega))⟩ ?_
           intro d145 fr144 w141 hI142 ih143
           obtain ⟨k, hd176, f146, f147, f148, f149, f150, f151, f152, f153, f154, f155, f156, f157, f158, f159, f160, f161, f162, f163, f164, f165, f166, f167, f168, f169, f170, f171, f172, f173, f174, E175, hk_, hin⟩ := hI142
           refine rk_seq ?_
           refine rk_seq ?_
           refine rk_reg ?_
           refine lw_v (.int .i64 ((k : Int))) (dv_move (T rfl f148)) ?_
           refine lw_v (.slice (some ⟨g20, o21, none⟩) l c) (dv_move (T rfl f146)) ?_
           refine lw_v (.int .i64 ((i : Int))) (dv_move (T rfl f147)) ?_
           refine lw_v (.pointer (some ⟨g20, o21 + i * 13, none⟩)) (dv_indexM (g := g20) (o := o21) (l := l) (c := c) (i := i) (j := (i : Int)) (m := 13) us46 sz52 (T rfl rfl) (T rfl rfl) (by omega) (by first | omega | (simp; done) | (simp; omega))) ?_
           refine lw_v (.pointer (some ⟨g20, o21 + (i * 13 + 12), none⟩)) (dv_fieldW (g := g20) (o := o21) (i := i * 13) fo52_1 (T rfl rfl)) ?_
           have h177 := (hx.ext E175)
           refine lw_v (.slice As11 ((Q i).es.length) cs12) (dv_load agt50 (T rfl rfl) (NR.slA (i := i) h177 (by first | omega | (simp; done) | (simp; omega)) hAs13 hcs14)) ?_
           refine lw_v (.int .i64 (((Q i).es.length : Int))) (dv_len (ad := As11) (l := (Q i).es.length) (c := cs12) us50 (T rfl rfl)) ?_
           refine lw_v (.bool (decide (((k : Int)) < (((Q i).es.length : Int))))) (dv_lss (a := (k : Int)) (b := ((Q i).es.length : Int)) (T rfl rfl) (T rfl rfl)) ?_
           refine lw_nil ?_
           by_cases hb178 : ((k : Int)) < (((Q i).es.length : Int))
           · refine rk_ct (T rfl (congrArg Value.bool (decide_eq_true hb178))) ?_
             refine rk_skip ?_
             refine rk_seq ?_
             refine rk_block ?_
             refine rk_seq ?_
             refine rk_any (fun w => NR w lo hi (some ⟨g20, o21, none⟩) l (fun i_ => evW (Q i_)) (fun i_ => (Q i_).es) SL ∧ RdI w .i64 As11 ((Q i).es)) [] mo ?_
             intro w179 d180
             have E181 := below_ext E175 E175.size d180.ext
             have h182 := (h177.ext d180.ext)
             refine aw_pure 0 (.slice (some ⟨g20, o21, none⟩) l c) rfl (by kernel_rfl) .none ⟨h182, (NR.rdA (i := i) h182 (by first | omega | (simp; done) | (simp; omega)) hAs13)⟩ (fun _ => dv_move (T rfl f146)) ?_
             refine aw_pure 1 (.int .i64 ((i : Int))) rfl (by kernel_rfl) .none ⟨h182, (NR.rdA (i := i) h182 (by first | omega | (simp; done) | (simp; omega)) hAs13)⟩ (fun _ => dv_move (T rfl f147)) ?_
             refine aw_pure 2 (.pointer (some ⟨g20, o21 + i * 13, none⟩)) rfl (by kernel_rfl) .none ⟨h182, (NR.rdA (i := i) h182 (by first | omega | (simp; done) | (simp; omega)) hAs13)⟩ (fun _ => dv_indexM (g := g20) (o := o21) (l := l) (c := c) (i := i) (j := (i : Int)) (m := 13) us46 sz52 (T rfl rfl) (T rfl rfl) (by omega) (by first | omega | (simp; done) | (simp; omega))) ?_
             refine aw_pure 3 (.pointer (some ⟨g20, o21 + (i * 13 + 12), none⟩)) rfl (by kernel_rfl) .none ⟨h182, (NR.rdA (i := i) h182 (by first | omega | (simp; done) | (simp; omega)) hAs13)⟩ (fun _ => dv_fieldW (g := g20) (o := o21) (i := i * 13) fo52_1 (T rfl rfl)) ?_
             refine aw_load 4 (.slice As11 ((Q i).es.length) cs12) rfl (by kernel_rfl) .none ⟨h182, (NR.rdA (i := i) h182 (by first | omega | (simp; done) | (simp; omega)) hAs13)⟩ (fun _ s => dv_load agt50 (T rfl rfl) (NR.slA (i := i) s.1 (by first | omega | (simp; done) | (simp; omega)) hAs13 hcs14)) ?_
             refine aw_pure 5 (.int .i64 ((k : Int))) rfl (by kernel_rfl) .none ⟨h182, (NR.rdA (i := i) h182 (by first | omega | (simp; done) | (simp; omega)) hAs13)⟩ (fun _ => dv_move (T rfl f148)) ?_
             obtain ⟨g183, o184, rfl⟩ := RdI.at (NR.rdA (i := i) h182 (by first | omega | (simp; done) | (simp; omega)) hAs13) (by first | omega | (simp; done) | (simp; omega))
             refine aw_pure 6 (.pointer (some ⟨g183, o184 + k, none⟩)) rfl (by kernel_rfl) .none ⟨h182, (NR.rdA (i := i) h182 (by first | omega | (simp; done) | (simp; omega)) hAs13)⟩ (fun _ => dv_indexW (g := g183) (o := o184) (l := (Q i).es.length) (c := cs12) (i := k) (j := (k : Int)) us50 sz2 (T rfl rfl) (T rfl rfl) (by omega) (by first | omega | (simp; done) | (simp; omega))) ?_
             refine aw_load 7 (.int .i64 (((Q i).es).getD k 0)) rfl (by kernel_rfl) .none ⟨h182, (NR.rdA (i := i) h182 (by first | omega | (simp; done) | (simp; omega)) hAs13)⟩ (fun _ s => dv_load agt2 (T rfl rfl) (RdI.cell s.2 (by first | omega | (simp; done) | (simp; omega)))) ?_
             refine aw_one 8 rfl (by kernel_rfl) .none (oe_callf (vs := [.int .i64 (((Q i).es).getD k 0), .int .i64 0, .int .i64 39]) co53 (ar3 (T rfl rfl) C C) (l1In_ok (n := ((Q i).es).getD k 0) (lo := 0) (hi := 39)  ) ?_)
             rintro _ w185 ⟨rfl, e186⟩
             have E187 := below_ext E181 E181.size e186
             have h188 := (h182.ext e186)
             refine ⟨.inr ⟨h188, (NR.rdA (i := i) h188 (by first | omega | (simp; done) | (simp; omega)) hAs13)⟩, ?_⟩
             refine aw_pure 9 (.bool (decide (¬ ((0 : Int) ≤ (((Q i).es).getD k 0) ∧ (((Q i).es).getD k 0) ≤ (39 : Int))))) rfl (by kernel_rfl) .none ⟨h188, (NR.rdA (i := i) h188 (by first | omega | (simp; done) | (simp; omega)) hAs13)⟩ (fun _ => dv_notd (p := (0 : Int) ≤ (((Q i).es).getD k 0) ∧ (((Q i).es).getD k 0) ≤ (39 : Int)) (T rfl rfl)) ?_
             refine aw_pure 10 (.bool (decide (¬ ((0 : Int) ≤ (((Q i).es).getD k 0) ∧ (((Q i).es).getD k 0) ≤ (39 : Int))))) rfl (by kernel_rfl) .none ⟨h188, (NR.rdA (i := i) h188 (by first | omega | (simp; done) | (simp; omega)) hAs13)⟩ (fun _ => dv_move (T rfl rfl)) ?_
             by_cases hb189 : (0 : Int) ≤ (((Q i).es).getD k 0) ∧ (((Q i).es).getD k 0) ≤ (39 : Int)
             · refine aw_pure 11 (.int .i64 ((k : Int))) rfl (by kernel_rfl) (.yes (d := 71) rfl rfl (congrArg Value.bool (decide_eq_false (not_not_intro hb189)))) ⟨h188, (NR.rdA (i := i) h188 (by first | omega | (simp; done) | (simp; omega)) hAs13)⟩ (fun _ => dv_move (T rfl f148)) ?_
               refine aw_pure 12 (.bool (decide (0 < ((k : Int))))) rfl (by kernel_rfl) (.yes (d := 71) rfl rfl (congrArg Value.bool (decide_eq_false (not_not_intro hb189)))) ⟨h188, (NR.rdA (i := i) h188 (by first | omega | (simp; done) | (simp; omega)) hAs13)⟩ (fun _ => dv_gtr (a := (k : Int)) (b := 0) (T rfl rfl) C) ?_
               refine aw_pure 13 (.bool (decide (0 < ((k : Int))))) rfl (by kernel_rfl) (.yes (d := 71) rfl rfl (congrArg Value.bool (decide_eq_false (not_not_intro hb189)))) ⟨h188, (NR.rdA (i := i) h188 (by first | omega | (simp; done) | (simp; omega)) hAs13)⟩ (fun _ => dv_move (T rfl rfl)) ?_
               by_cases hb190 : 0 < ((k : Int))
               · refine aw_pure 14 (.slice (some ⟨g20, o21, none⟩) l c) rfl (by kernel_rfl) (.yes (d := 74) rfl rfl (congrArg Value.bool (decide_eq_true hb190))) ⟨h188, (NR.rdA (i := i) h188 (by first | omega | (simp; done) | (simp; omega)) hAs13)⟩ (fun _ => dv_move (T rfl f146)) ?_
                 refine aw_pure 15 (.int .i64 ((i : Int))) rfl (by kernel_rfl) (.yes (d := 74) rfl rfl (congrArg Value.bool (decide_eq_true hb190))) ⟨h188, (NR.rdA (i := i) h188 (by first | omega | (simp; done) | (simp; omega)) hAs13)⟩ (fun _ => dv_move (T rfl f147)) ?_
                 refine aw_pure 16 (.pointer (some ⟨g20, o21 + i * 13, none⟩)) rfl (by kernel_rfl) (.yes (d := 74) rfl rfl (congrArg Value.bool (decide_eq_true hb190))) ⟨h188, (NR.rdA (i := i) h188 (by first | omega | (simp; done) | (simp; omega)) hAs13)⟩ (fun _ => dv_indexM (g := g20) (o := o21) (l := l) (c := c) (i := i) (j := (i : Int)) (m := 13) us46 sz52 (T rfl rfl) (T rfl rfl) (by omega) (by first | omega | (simp; done) | (simp; omega))) ?_
                 refine aw_pure 17 (.pointer (some ⟨g20, o21 + (i * 13 + 12), none⟩)) rfl (by kernel_rfl) (.yes (d := 74) rfl rfl (congrArg Value.bool (decide_eq_true hb190))) ⟨h188, (NR.rdA (i := i) h188 (by first | omega | (simp; done) | (simp; omega)) hAs13)⟩ (fun _ => dv_fieldW (g := g20) (o := o21) (i := i * 13) fo52_1 (T rfl rfl)) ?_
                 refine aw_load 18 (.slice (some ⟨g183, o184, none⟩) ((Q i).es.length) cs12) rfl (by kernel_rfl) (.yes (d := 74) rfl rfl (congrArg Value.bool (decide_eq_true hb190))) ⟨h188, (NR.rdA (i := i) h188 (by first | omega | (simp; done) | (simp; omega)) hAs13)⟩ (fun _ s => dv_load agt50 (T rfl rfl) (NR.slA (i := i) s.1 (by first | omega | (simp; done) | (simp; omega)) hAs13 hcs14)) ?_
                 refine aw_pure 19 (.int .i64 ((k : Int))) rfl (by kernel_rfl) (.yes (d := 74) rfl rfl (congrArg Value.bool (decide_eq_true hb190))) ⟨h188, (NR.rdA (i := i) h188 (by first | omega | (simp; done) | (simp; omega)) hAs13)⟩ (fun _ => dv_move (T rfl f148)) ?_
                 refine aw_pure 20 (.int .i64 (((k : Int)) - 1)) rfl (by kernel_rfl) (.yes (d := 74) rfl rfl (congrArg Value.bool (decide_eq_true hb190))) ⟨h188, (NR.rdA (i := i) h188 (by first | omega | (simp; done) | (simp; omega)) hAs13)⟩ (fun _ => dv_sub (a := (k : Int)) (b := 1) (z := ((k : Int)) - 1) (T rfl rfl) C (wr_i64 (by omega) (by omega))) ?_
                 refine aw_pure 21 (.pointer (some ⟨g183, o184 + ((k) - 1), none⟩)) rfl (by kernel_rfl) (.yes (d := 74) rfl rfl (congrArg Value.bool (decide_eq_true hb190))) ⟨h188, (NR.rdA (i := i) h188 (by first | omega | (simp; done) | (simp; omega)) hAs13)⟩ (fun _ => dv_indexW (g := g183) (o := o184) (l := (Q i).es.length) (c := cs12) (i := ((k) - 1)) (j := ((k : Int)) - 1) us50 sz2 (T rfl rfl) (T rfl rfl) (by omega) (by first | omega | (simp; done) | (simp; omega))) ?_
                 refine aw_load 22 (.int .i64 (((Q i).es).getD (((k) - 1)) 0)) rfl (by kernel_rfl) (.yes (d := 74) rfl rfl (congrArg Value.bool (decide_eq_true hb190))) ⟨h188, (NR.rdA (i := i) h188 (by first | omega | (simp; done) | (simp; omega)) hAs13)⟩ (fun _ s => dv_load agt2 (T rfl rfl) (RdI.cell s.2 (by first | omega | (simp; done) | (simp; omega)))) ?_
                 refine aw_pure 23 (.slice (some ⟨g20, o21, none⟩) l c) rfl (by kernel_rfl) (.yes (d := 74) rfl rfl (congrArg Value.bool (decide_eq_true hb190))) ⟨h188, (NR.rdA (i := i) h188 (by first | omega | (simp; done) | (simp; omega)) hAs13)⟩ (fun _ => dv_move (T rfl f146)) ?_
                 refine aw_pure 24 (.int .i64 ((i : Int))) rfl (by kernel_rfl) (.yes (d := 74) rfl rfl (congrArg Value.bool (decide_eq_true hb190))) ⟨h188, (NR.rdA (i := i) h188 (by first | omega | (simp; done) | (simp; omega)) hAs13)⟩ (fun _ => dv_move (T rfl f147)) ?_
                 refine aw_pure 25 (.pointer (some ⟨g20, o21 + i * 13, none⟩)) rfl (by kernel_rfl) (.yes (d := 74) rfl rfl (congrArg Value.bool (decide_eq_true hb190))) ⟨h188, (NR.rdA (i := i) h188 (by first | omega | (simp; done) | (simp; omega)) hAs13)⟩ (fun _ => dv_indexM (g := g20) (o := o21) (l := l) (c := c) (i := i) (j := (i : Int)) (m := 13) us46 sz52 (T rfl rfl) (T rfl rfl) (by omega) (by first | omega | (simp; done) | (simp; omega))) ?_
                 refine aw_pure 26 (.pointer (some ⟨g20, o21 + (i * 13 + 12), none⟩)) rfl (by kernel_rfl) (.yes (d := 74) rfl rfl (congrArg Value.bool (decide_eq_true hb190))) ⟨h188, (NR.rdA (i := i) h188 (by first | omega | (simp; done) | (simp; omega)) hAs13)⟩ (fun _ => dv_fieldW (g := g20) (o := o21) (i := i * 13) fo52_1 (T rfl rfl)) ?_
                 refine aw_load 27 (.slice (some ⟨g183, o184, none⟩) ((Q i).es.length) cs12) rfl (by kernel_rfl) (.yes (d := 74) rfl rfl (congrArg Value.bool (decide_eq_true hb190))) ⟨h188, (NR.rdA (i := i) h188 (by first | omega | (simp; done) | (simp; omega)) hAs13)⟩ (fun _ s => dv_load agt50 (T rfl rfl) (NR.slA (i := i) s.1 (by first | omega | (simp; done) | (simp; omega)) hAs13 hcs14)) ?_
                 refine aw_pure 28 (.int .i64 ((k : Int))) rfl (by kernel_rfl) (.yes (d := 74) rfl rfl (congrArg Value.bool (decide_eq_true hb190))) ⟨h188, (NR.rdA (i := i) h188 (by first | omega | (simp; done) | (simp; omega)) hAs13)⟩ (fun _ => dv_move (T rfl f148)) ?_
                 refine aw_pure 29 (.pointer (some ⟨g183, o184 + k, none⟩)) rfl (by kernel_rfl) (.yes (d := 74) rfl rfl (congrArg Value.bool (decide_eq_true hb190))) ⟨h188, (NR.rdA (i := i) h188 (by first | omega | (simp; done) | (simp; omega)) hAs13)⟩ (fun _ => dv_indexW (g := g183) (o := o184) (l := (Q i).es.length) (c := cs12) (i := k) (j := (k : Int)) us50 sz2 (T rfl rfl) (T rfl rfl) (by omega) (by first | omega | (simp; done) | (simp; omega))) ?_
                 refine aw_load 30 (.int .i64 (((Q i).es).getD k 0)) rfl (by kernel_rfl) (.yes (d := 74) rfl rfl (congrArg Value.bool (decide_eq_true hb190))) ⟨h188, (NR.rdA (i := i) h188 (by first | omega | (simp; done) | (simp; omega)) hAs13)⟩ (fun _ s => dv_load agt2 (T rfl rfl) (RdI.cell s.2 (by first | omega | (simp; done) | (simp; omega)))) ?_
                 refine aw_pure 31 (.bool (decide ((((Q i).es).getD k 0) ≤ (((Q i).es).getD (((k) - 1)) 0)))) rfl (by kernel_rfl) (.yes (d := 74) rfl rfl (congrArg Value.bool (decide_eq_true hb190))) ⟨h188, (NR.rdA (i := i) h188 (by first | omega | (simp; done) | (simp; omega)) hAs13)⟩ (fun _ => dv_geq (a := ((Q i).es).getD (((k) - 1)) 0) (b := ((Q i).es).getD k 0) (T rfl rfl) (T rfl rfl)) ?_
                 refine aw_pure 32 (.bool (decide ((((Q i).es).getD k 0) ≤ (((Q i).es).getD (((k) - 1)) 0)))) rfl (by kernel_rfl) (.yes (d := 71) rfl rfl (congrArg Value.bool (decide_eq_false (not_not_intro hb189)))) ⟨h188, (NR.rdA (i := i) h188 (by first | omega | (simp; done) | (simp; omega)) hAs13)⟩ (fun _ => dv_pick_t (T rfl (congrArg Value.bool (decide_eq_true hb190))) (T rfl rfl)) ?_
                 refine aw_pure 33 (.bool (decide ((((Q i).es).getD k 0) ≤ (((Q i).es).getD (((k) - 1)) 0)))) rfl (by kernel_rfl) .none ⟨h188, (NR.rdA (i := i) h188 (by first | omega | (simp; done) | (simp; omega)) hAs13)⟩ (fun _ => dv_pick_f (T rfl (congrArg Value.bool (decide_eq_false (not_not_intro hb189)))) (T rfl rfl)) ?_
                 refine aw_done (by kernel_rfl) ?_
                 by_cases hb191 : (((Q i).es).getD k 0) ≤ (((Q i).es).getD (((k) - 1)) 0)
                 · refine rk_ct (T rfl (congrArg Value.bool (decide_eq_true hb191))) ?_
                   refine rk_seq ?_
                   refine rk_reg ?_
                   refine lw_v (.bool false) (dv_assign C) ?_
                   refine lw_nil ?_
                   refine rk_ret Try.func16 (v := .bool false) (res1 Try.results16 (rv_tmp rfl rfl)) ⟨_, rfl, ?_⟩
                   exact ⟨(vf (fun hh_ => by have hh := (hh_.2 i (by omega)).2.2.1 k (by omega); first | exact absurd hh.1 (by assumption) | (have h2_ := hh.2 (by omega); omega) | (have h1_ := hh.1; omega))), E187⟩
                 · refine rk_cf (T rfl (congrArg Value.bool (decide_eq_false hb191))) ?_
                   refine rk_skip ?_
                   refine rk_inBlock ?_
                   refine rk_reg ?_
                   refine lw_v (.int .i64 ((k : Int))) (dv_move (T rfl f148)) ?_
                   refine lw_v (.int .i64 (((k : Int)) + 1)) (dv_add (a := (k : Int)) (b := 1) (z := ((k : Int)) + 1) (T rfl rfl) C (wr_i64 (by omega) (by omega))) ?_
                   refine lw_v (.int .i64 (((k : Int)) + 1)) (dv_assign (T rfl rfl)) ?_
                   refine lw_nil ?_
                   exact ih143 ((Q i).es.length - ((k + 1))) _ _ (by rw [hd176]; omega) ⟨(k + 1), rfl, f146, f147, (vi (by omega)), f149, f150, f151, f152, f153, f154, f155, f156, f157, f158, f159, f160, f161, f162, f163, f164, f165, f166, f167, f168, f169, f170, f171, f172, f173, f174, E187, (by omega), (all_step hin ⟨(by first | assumption | exact Decidable.not_not.1 (by assumption)), fun h0_ => by first | omega | (exfalso; omega)⟩)⟩
               · refine aw_no 14 rfl (by kernel_rfl) (d := 74) rfl rfl (congrArg Value.bool (decide_eq_false hb190)) ⟨h188, (NR.rdA (i := i) h188 (by first | omega | (simp; done) | (simp; omega)) hAs13)⟩ ?_
                 refine aw_no 15 rfl (by kernel_rfl) (d := 74) rfl rfl (congrArg Value.bool (decide_eq_false hb190)) ⟨h188, (NR.rdA (i := i) h188 (by first | omega | (simp; done) | (simp; omega)) hAs13)⟩ ?_
                 refine aw_no 16 rfl (by kernel_rfl) (d := 74) rfl rfl (congrArg Value.bool (decide_eq_false hb190)) ⟨h188, (NR.rdA (i := i) h188 (by first | omega | (simp; done) | (simp; omega)) hAs13)⟩ ?_
                 refine aw_no 17 rfl (by kernel_rfl) (d := 74) rfl rfl (congrArg Value.bool (decide_eq_false hb190)) ⟨h188, (NR.rdA (i := i) h188 (by first | omega | (simp; done) | (simp; omega)) hAs13)⟩ ?_
                 refine aw_no 18 rfl (by kernel_rfl) (d := 74) rfl rfl (congrArg Value.bool (decide_eq_false hb190)) ⟨h188, (NR.rdA (i := i) h188 (by first | omega | (simp; done) | (simp; omega)) hAs13)⟩ ?_
                 refine aw_no 19 rfl (by kernel_rfl) (d := 74) rfl rfl (congrArg Value.bool (decide_eq_false hb190)) ⟨h188, (NR.rdA (i := i) h188 (by first | omega | (simp; done) | (simp; omega)) hAs13)⟩ ?_
                 refine aw_no 20 rfl (by kernel_rfl) (d := 74) rfl rfl (congrArg Value.bool (decide_eq_false hb190)) ⟨h188, (NR.rdA (i := i) h188 (by first | omega | (simp; done) | (simp; omega)) hAs13)⟩ ?_
                 refine aw_no 21 rfl (by kernel_rfl) (d := 74) rfl rfl (congrArg Value.bool (decide_eq_false hb190)) ⟨h188, (NR.rdA (i := i) h188 (by first | omega | (simp; done) | (simp; omega)) hAs13)⟩ ?_
                 refine aw_no 22 rfl (by kernel_rfl) (d := 74) rfl rfl (congrArg Value.bool (decide_eq_false hb190)) ⟨h188, (NR.rdA (i := i) h188 (by first | omega | (simp; done) | (simp; omega)) hAs13)⟩ ?_
                 refine aw_no 23 rfl (by kernel_rfl) (d := 74) rfl rfl (congrArg Value.bool (decide_eq_false hb190)) ⟨h188, (NR.rdA (i := i) h188 (by first | omega | (simp; done) | (simp; omega)) hAs13)⟩ ?_
                 refine aw_no 24 rfl (by kernel_rfl) (d := 74) rfl rfl (congrArg Value.bool (decide_eq_false hb190)) ⟨h188, (NR.rdA (i := i) h188 (by first | omega | (simp; done) | (simp; omega)) hAs13)⟩ ?_
                 refine aw_no 25 rfl (by kernel_rfl) (d := 74) rfl rfl (congrArg Value.bool (decide_eq_false hb190)) ⟨h188, (NR.rdA (i := i) h188 (by first | omega | (simp; done) | (simp; omega)) hAs13)⟩ ?_
                 refine aw_no 26 rfl (by kernel_rfl) (d := 74) rfl rfl (congrArg Value.bool (decide_eq_false hb190)) ⟨h188, (NR.rdA (i := i) h188 (by first | omega | (simp; done) | (simp; omega)) hAs13)⟩ ?_
                 refine aw_no 27 rfl (by kernel_rfl) (d := 74) rfl rfl (congrArg Value.bool (decide_eq_false hb190)) ⟨h188, (NR.rdA (i := i) h188 (by first | omega | (simp; done) | (simp; omega)) hAs13)⟩ ?_
                 refine aw_no 28 rfl (by kernel_rfl) (d := 74) rfl rfl (congrArg Value.bool (decide_eq_false hb190)) ⟨h188, (NR.rdA (i := i) h188 (by first | omega | (simp; done) | (simp; omega)) hAs13)⟩ ?_
                 refine aw_no 29 rfl (by kernel_rfl) (d := 74) rfl rfl (congrArg Value.bool (decide_eq_false hb190)) ⟨h188, (NR.rdA (i := i) h188 (by first | omega | (simp; done) | (simp; omega)) hAs13)⟩ ?_
                 refine aw_no 30 rfl (by kernel_rfl) (d := 74) rfl rfl (congrArg Value.bool (decide_eq_false hb190)) ⟨h188, (NR.rdA (i := i) h188 (by first | omega | (simp; done) | (simp; omega)) hAs13)⟩ ?_
                 refine aw_no 31 rfl (by kernel_rfl) (d := 74) rfl rfl (congrArg Value.bool (decide_eq_false hb190)) ⟨h188, (NR.rdA (i := i) h188 (by first | omega | (simp; done) | (simp; omega)) hAs13)⟩ ?_
                 refine aw_pure 32 (.bool false) rfl (by kernel_rfl) (.yes (d := 71) rfl rfl (congrArg Value.bool (decide_eq_false (not_not_intro hb189)))) ⟨h188, (NR.rdA (i := i) h188 (by first | omega | (simp; done) | (simp; omega)) hAs13)⟩ (fun _ => dv_pick_f (T rfl (congrArg Value.bool (decide_eq_false hb190))) C) ?_
                 refine aw_pure 33 (.bool false) rfl (by kernel_rfl) .none ⟨h188, (NR.rdA (i := i) h188 (by first | omega | (simp; done) | (simp; omega)) hAs13)⟩ (fun _ => dv_pick_f (T rfl (congrArg Value.bool (decide_eq_false (not_not_intro hb189)))) (T rfl rfl)) ?_
                 refine aw_done (by kernel_rfl) ?_
                 refine rk_cf (T rfl rfl) ?_
                 refine rk_skip ?_
                 refine rk_inBlock ?_
                 refine rk_reg ?_
                 refine lw_v (.int .i64 ((k : Int))) (dv_move (T rfl f148)) ?_
                 refine lw_v (.int .i64 (((k : Int)) + 1)) (dv_add (a := (k : Int)) (b := 1) (z := ((k : Int)) + 1) (T rfl rfl) C (wr_i64 (by omega) (by omega))) ?_
                 refine lw_v (.int .i64 (((k : Int)) + 1)) (dv_assign (T rfl rfl)) ?_
                 refine lw_nil ?_
                 exact ih143 ((Q i).es.length - ((k + 1))) _ _ (by rw [hd176]; omega) ⟨(k + 1), rfl, f146, f147, (vi (by omega)), f149, f150, f151, f152, f153, f154, f155, f156, f157, f158, f159, f160, f161, f162, f163, f164, f165, f166, f167, f168, f169, f170, f171, f172, f173, f174, E187, (by omega), (all_step hin ⟨(by first | assumption | exact Decidable.not_not.1 (by assumption)), fun h0_ => by first | omega | (exfalso; omega)⟩)⟩
             · refine aw_no 11 rfl (by kernel_rfl) (d := 71) rfl rfl (congrArg Value.bool (decide_eq_true hb189)) ⟨h188, (NR.rdA (i := i) h188 (by first | omega | (simp; done) | (simp; omega)) hAs13)⟩ ?_
               refine aw_no 12 rfl (by kernel_rfl) (d := 71) rfl rfl (congrArg Value.bool (decide_eq_true hb189)) ⟨h188, (NR.rdA (i := i) h188 (by first | omega | (simp; done) | (simp; omega)) hAs13)⟩ ?_
               refine aw_no 13 rfl (by kernel_rfl) (d := 71) rfl rfl (congrArg Value.bool (decide_eq_true hb189)) ⟨h188, (NR.rdA (i := i) h188 (by first | omega | (simp; done) | (simp; omega)) hAs13)⟩ ?_
               refine aw_nou 14 rfl (by kernel_rfl) (d := 74) rfl rfl ⟨h188, (NR.rdA (i := i) h188 (by first | omega | (simp; done) | (simp; omega)) hAs13)⟩ ?_
               refine aw_nou 15 rfl (by kernel_rfl) (d := 74) rfl rfl ⟨h188, (NR.rdA (i := i) h188 (by first | omega | (simp; done) | (simp; omega)) hAs13)⟩ ?_
               refine aw_nou 16 rfl (by kernel_rfl) (d := 74) rfl rfl ⟨h188, (NR.rdA (i := i) h188 (by first | omega | (simp; done) | (simp; omega)) hAs13)⟩ ?_
               refine aw_nou 17 rfl (by kernel_rfl) (d := 74) rfl rfl ⟨h188, (NR.rdA (i := i) h188 (by first | omega | (simp; done) | (simp; omega)) hAs13)⟩ ?_
               refine aw_nou 18 rfl (by kernel_rfl) (d := 74) rfl rfl ⟨h188, (NR.rdA (i := i) h188 (by first | omega | (simp; done) | (simp; omega)) hAs13)⟩ ?_
               refine aw_nou 19 rfl (by kernel_rfl) (d := 74) rfl rfl ⟨h188, (NR.rdA (i := i) h188 (by first | omega | (simp; done) | (simp; omega)) hAs13)⟩ ?_
               refine aw_nou 20 rfl (by kernel_rfl) (d := 74) rfl rfl ⟨h188, (NR.rdA (i := i) h188 (by first | omega | (simp; done) | (simp; omega)) hAs13)⟩ ?_
               refine aw_nou 21 rfl (by kernel_rfl) (d := 74) rfl rfl ⟨h188, (NR.rdA (i := i) h188 (by first | omega | (simp; done) | (simp; omega)) hAs13)⟩ ?_
               refine aw_nou 22 rfl (by kernel_rfl) (d := 74) rfl rfl ⟨h188, (NR.rdA (i := i) h188 (by first | omega | (simp; done) | (simp; omega)) hAs13)⟩ ?_
               refine aw_nou 23 rfl (by kernel_rfl) (d := 74) rfl rfl ⟨h188, (NR.rdA (i := i) h188 (by first | omega | (simp; done) | (simp; omega)) hAs13)⟩ ?_
               refine aw_nou 24 rfl (by kernel_rfl) (d := 74) rfl rfl ⟨h188, (NR.rdA (i := i) h188 (by first | omega | (simp; done) | (simp; omega)) hAs13)⟩ ?_
               refine aw_nou 25 rfl (by kernel_rfl) (d := 74) rfl rfl ⟨h188, (NR.rdA (i := i) h188 (by first | omega | (simp; done) | (simp; omega)) hAs13)⟩ ?_
               refine aw_nou 26 rfl (by kernel_rfl) (d := 74) rfl rfl ⟨h188, (NR.rdA (i := i) h188 (by first | omega | (simp; done) | (simp; omega)) hAs13)⟩ ?_
               refine aw_nou 27 rfl (by kernel_rfl) (d := 74) rfl rfl ⟨h188, (NR.rdA (i := i) h188 (by first | omega | (simp; done) | (simp; omega)) hAs13)⟩ ?_
               refine aw_nou 28 rfl (by kernel_rfl) (d := 74) rfl rfl ⟨h188, (NR.rdA (i := i) h188 (by first | omega | (simp; done) | (simp; omega)) hAs13)⟩ ?_
               refine aw_nou 29 rfl (by kernel_rfl) (d := 74) rfl rfl ⟨h188, (NR.rdA (i := i) h188 (by first | omega | (simp; done) | (simp; omega)) hAs13)⟩ ?_
               refine aw_nou 30 rfl (by kernel_rfl) (d := 74) rfl rfl ⟨h188, (NR.rdA (i := i) h188 (by first | omega | (simp; done) | (simp; omega)) hAs13)⟩ ?_
               refine aw_nou 31 rfl (by kernel_rfl) (d := 74) rfl rfl ⟨h188, (NR.rdA (i := i) h188 (by first | omega | (simp; done) | (simp; omega)) hAs13)⟩ ?_
               refine aw_no 32 rfl (by kernel_rfl) (d := 71) rfl rfl (congrArg Value.bool (decide_eq_true hb189)) ⟨h188, (NR.rdA (i := i) h188 (by first | omega | (simp; done) | (simp; omega)) hAs13)⟩ ?_
               refine aw_pure 33 (.bool true) rfl (by kernel_rfl) .none ⟨h188, (NR.rdA (i := i) h188 (by first | omega | (simp; done) | (simp; omega)) hAs13)⟩ (fun _ => dv_pick_t (T rfl (congrArg Value.bool (decide_eq_true hb189))) C) ?_
               refine aw_done (by kernel_rfl) ?_
               refine rk_ct (T rfl rfl) ?_
               refine rk_seq ?_
               refine rk_reg ?_
               refine lw_v (.bool false) (dv_assign C) ?_
               refine lw_nil ?_
               refine rk_ret Try.func16 (v := .bool false) (res1 Try.results16 (rv_tmp rfl rfl)) ⟨_, rfl, ?_⟩
               exact ⟨(vf (fun hh_ => by have hh := (hh_.2 i (by omega)).2.2.1 k (by omega); first | exact absurd hh.1 (by assumption) | (have h2_ := hh.2 (by omega); omega) | (have h1_ := hh.1; omega))), E187⟩
           · refine rk_cf (T rfl (congrArg Value.bool (decide_eq_false hb178))) ?_
             refine rk_exit rfl ?_
             refine rk_inBlock ?_
             refine rk_reg ?_
             refine lw_v (.int .i64 ((i : Int))) (dv_move (T rfl f147)) ?_
             refine lw_v (.int .i64 (((i : Int)) + 1)) (dv_add (a := (i : Int)) (b := 1) (z := ((i : Int)) + 1) (T rfl rfl) C (wr_i64 (by omega) (by omega))) ?_
             refine lw_v (.int .i64 (((i : Int)) + 1)) (dv_assign (T rfl rfl)) ?_
             refine lw_nil ?_
             exact ih4 (l - ((i + 1))) _ _ (by rw [hd10]; omega) ⟨(i + 1), rfl, f146, (vi (by omega)), E175, (by omega), (all_step hall ⟨(by first | assumption | exact Decidable.not_not.1 (by assumption)), by omega, (fun k hk => hin k (by omega)), fun h0_ => by first | omega | (exfalso; omega)⟩)⟩
     · refine aw_no 8 rfl (by kernel_rfl) (d := 21) rfl rfl (congrArg Value.bool (decide_eq_true hb26)) h25 ?_
       refine aw_no 9 rfl (by kernel_rfl) (d := 21) rfl rfl (congrArg Value.bool (decide_eq_true hb26)) h25 ?_
       refine aw_no 10 rfl (by kernel_rfl) (d := 21) rfl rfl (congrArg Value.bool (decide_eq_true hb26)) h25 ?_
       refine aw_no 11 rfl (by kernel_rfl) (d := 21) rfl rfl (congrArg Value.bool (decide_eq_true hb26)) h25 ?_
       refine aw_no 12 rfl (by kernel_rfl) (d := 21) rfl rfl (congrArg Value.bool (decide_eq_true hb26)) h25 ?_
       refine aw_no 13 rfl (by kernel_rfl) (d := 21) rfl rfl (congrArg Value.bool (decide_eq_true hb26)) h25 ?_
       refine aw_no 14 rfl (by kernel_rfl) (d := 21) rfl rfl (congrArg Value.bool (decide_eq_true hb26)) h25 ?_
       refine aw_pure 15 (.bool true) rfl (by kernel_rfl) .none h25 (fun _ => dv_pick_t (T rfl (congrArg Value.bool (decide_eq_true hb26))) C) ?_
       refine aw_pure 16 (.bool true) rfl (by kernel_rfl) .none h25 (fun _ => dv_move (T rfl rfl)) ?_
       refine aw_no 17 rfl (by kernel_rfl) (d := 30) rfl rfl (rfl) h25 ?_
       refine aw_no 18 rfl (by kernel_rfl) (d := 30) rfl rfl (rfl) h25 ?_
       refine aw_no 19 rfl (by kernel_rfl) (d := 30) rfl rfl (rfl) h25 ?_
       refine aw_nou 20 rfl (by kernel_rfl) (d := 33) rfl rfl h25 ?_
       refine aw_nou 21 rfl (by kernel_rfl) (d := 33) rfl rfl h25 ?_
       refine aw_nou 22 rfl (by kernel_rfl) (d := 33) rfl rfl h25 ?_
       refine aw_nou 23 rfl (by kernel_rfl) (d := 33) rfl rfl h25 ?_
       refine aw_nou 24 rfl (by kernel_rfl) (d := 33) rfl rfl h25 ?_
       refine aw_nou 25 rfl (by kernel_rfl) (d := 33) rfl rfl h25 ?_
       refine aw_nou 26 rfl (by kernel_rfl) (d := 33) rfl rfl h25 ?_
       refine aw_nou 27 rfl (by kernel_rfl) (d := 33) rfl rfl h25 ?_
       refine aw_nou 28 rfl (by kernel_rfl) (d := 33) rfl rfl h25 ?_
       refine aw_nou 29 rfl (by kernel_rfl) (d := 33) rfl rfl h25 ?_
       refine aw_nou 30 rfl (by kernel_rfl) (d := 33) rfl rfl h25 ?_
       refine aw_nou 31 rfl (by kernel_rfl) (d := 33) rfl rfl h25 ?_
       refine aw_nou 32 rfl (by kernel_rfl) (d := 33) rfl rfl h25 ?_
       refine aw_nou 33 rfl (by kernel_rfl) (d := 33) rfl rfl h25 ?_
       refine aw_nou 34 rfl (by kernel_rfl) (d := 33) rfl rfl h25 ?_
       refine aw_no 35 rfl (by kernel_rfl) (d := 30) rfl rfl (rfl) h25 ?_
       refine aw_pure 36 (.bool true) rfl (by kernel_rfl) .none h25 (fun _ => dv_pick_t (T rfl rfl) C) ?_
       refine aw_done (by kernel_rfl) ?_
       refine rk_ct (T rfl rfl) ?_
       refine rk_seq ?_
       refine rk_reg ?_
       refine lw_v (.bool false) (dv_assign C) ?_
       refine lw_nil ?_
       refine rk_ret Try.func16 (v := .bool false) (res1 Try.results16 (rv_tmp rfl rfl)) ⟨_, rfl, ?_⟩
       exact ⟨(vf (fun hh_ => by have hh := hh_.2 i (by omega); first | exact absurd hh.1 (by assumption) | exact absurd hh.2.2.1 (by assumption) | (have h2_ := hh.2.1; omega) | (have h2_ := hh.2.2.2 (by omega); omega))), E24⟩
   · refine rk_cf (T rfl (congrArg Value.bool (decide_eq_false hb15))) ?_
     refine rk_exit rfl ?_
     refine rk_seq ?_
     refine rk_reg ?_
     refine lw_v (.bool true) (dv_assign C) ?_
     refine lw_nil ?_
     refine rk_ret Try.func16 (v := .bool true) (res1 Try.results16 (rv_tmp rfl rfl)) ⟨_, rfl, ?_⟩
     exact ⟨(vt ⟨by omega, fun k hk => hall k (by omega)⟩), E9⟩
end Go.Proofs.Ytmbpomcbdopgnaa.W
set_option linter.unusedVariables false
set_option linter.unusedSimpArgs false
namespace Go.Proofs.Ytmbpomcbdopgnaa.W
open Go Go.RowKit Go.Proofs.Ytmbpomcbdopgnaa.Fw
attribute [local irreducible] RunK LW AW DV OE Ct
theorem co15 : callOk Try.prog 15 = true := by kernel_rfl
theorem co16 : callOk Try.prog 16 = true := by kernel_rfl
theorem co17 : callOk Try.prog 17 = true := by kernel_rfl
theorem co18 : callOk Try.prog 18 = true := by kernel_rfl
theorem co19 : callOk Try.prog 19 = true := by kernel_rfl
set_option maxHeartbeats 1000000 in
theorem lawEventsOk_ok {w : World} {A : Option Addr} {l c : Nat} {Q : Nat → Ev} {SL : SlF} (hx : NR w 0 w.heap.size A l (fun i_ => evW (Q i_)) (fun i_ => (Q i_).es) SL) (hlc : l ≤ c) (hcm : c ≤ 9223372036854775807) (hEm : ∀ i, i < l → (Q i).es.length ≤ 9223372036854775807) (hfq : ∀ i, i < l → fits (Q i).x ∧ fits (Q i).y ∧ fits (Q i).u) : Ct Try.prog 4 [.slice A l c] w fun v w1 => v = .bool true ∧ Ext w w1 := by
 refine ct_run (n := 27) Try.func4 rfl Try.ntmps4 rfl ?_
 have E0 : Below w.heap.size w w := Below.refl _ _
 refine rk_seq ?_
 refine rk_reg ?_
 refine lw_v (.bool false) (dv_assign C) ?_
 refine lw_nil ?_
 refine rk_seq ?_
 refine rk_reg ?_
 refine lw_v (.int .i64 1048576) (dv_assign C) ?_
 refine lw_nil ?_
 refine rk_seq ?_
 refine rk_reg ?_
 refine lw_v (.slice A l c) (dv_move (T rfl rfl)) ?_
 refine lw_v (.int .i64 1048576) (dv_move (T rfl rfl)) ?_
 refine lw_e (oe_callf (vs := [.slice A l c, .int .i64 1048576]) co15 (ar2 (T rfl rfl) (T rfl rfl)) (szEventS_ok (c := c) hx (by omega) hEm (by omega)) ?_)
 rintro _ w3 ⟨zs1, rfl, hzs2, e4⟩
 have E5 := below_ext E0 E0.size e4
 have hsz_ := hzs2
 refine lw_v (.int .i64 zs1) (dv_assign (T rfl rfl)) ?_
 refine lw_nil ?_
 refine rk_seq ?_
 refine rk_seq ?_
 refine rk_reg ?_
 refine lw_v (.int .i64 zs1) (dv_move (T rfl rfl)) ?_
 refine lw_v (.bool (decide (zs1 < 0))) (dv_lss (a := zs1) (b := 0) (T rfl rfl) C) ?_
 refine lw_nil ?_
 by_cases hb6 : zs1 < 0
 · refine rk_ct (T rfl (congrArg Value.bool (decide_eq_true hb6))) ?_
   refine rk_seq ?_
   refine rk_reg ?_
   refine lw_v (.bool true) (dv_assign C) ?_
   refine lw_nil ?_
   refine rk_ret Try.func4 (v := .bool true) (res1 Try.results4 (rv_tmp rfl rfl)) ⟨_, rfl, ?_⟩
   exact ⟨rfl, E5⟩
 · have hxb := (hsz_ (by omega)).1
   have hxf : evF l Q := fun i_ hi_ => ⟨hfq i_ hi_, (hsz_ (by omega)).2 i_ hi_⟩
   refine rk_cf (T rfl (congrArg Value.bool (decide_eq_false hb6))) ?_
   refine rk_skip ?_
   refine rk_seq ?_
   refine rk_reg ?_
   refine lw_v (.slice A l c) (dv_move (T rfl rfl)) ?_
   have h7 := (hx.ext e4)
   refine lw_e (oe_callf (vs := [.slice A l c]) co17 (ar1 (T rfl rfl)) (toEventS_ok (c := c) h7 (by omega) hxf) ?_)
   rintro _ w11 ⟨At8, St9, rfl, e12, hNt10⟩
   have E13 := below_ext E5 E5.size e12
   have := hNt10.lh
   refine lw_e (oe_callf (vs := [.slice At8 l l]) co16 (ar1 (T rfl rfl)) (sEventsOk_ok (c := l) hNt10.nr (by omega) hxf) ?_)
   rintro _ w14 ⟨rfl, e15⟩
   have E16 := below_ext E13 E13.size e15
   refine lw_v (.bool (decide (evsOk l Q))) (dv_assign (T rfl rfl)) ?_
   refine lw_nil ?_
   refine rk_seq ?_
   refine rk_reg ?_
   refine lw_v (.slice A l c) (dv_move (T rfl rfl)) ?_
   have h17 := ((h7.ext e12).ext e15)
   refine lw_e (oe_callf (vs := [.slice A l c]) co17 (ar1 (T rfl rfl)) (toEventS_ok (c := c) h17 (by omega) hxf) ?_)
   rintro _ w21 ⟨At18, St19, rfl, e22, hNt20⟩
   have E23 := below_ext E16 E16.size e22
   have := hNt20.lh
   refine lw_v (.slice At18 l l) (dv_assign (T rfl rfl)) ?_
   refine lw_nil ?_
   refine rk_seq ?_
   refine rk_reg ?_
   refine lw_v (.slice At18 l l) (dv_move (T rfl rfl)) ?_
   refine lw_e (oe_callf (vs := [.slice At18 l l]) co18 (ar1 (T rfl rfl)) (iEventsOk_ok (c := l) hNt20.nr (by omega) hxf) ?_)
   rintro _ w24 ⟨rfl, e25⟩
   have E26 := below_ext E23 E23.size e25
   refine lw_v (.bool (decide (evsOk l Q))) (dv_assign (T rfl rfl)) ?_
   refine lw_nil ?_
   refine rk_seq ?_
   refine rk_seq ?_
   refine rk_reg ?_
   refine lw_v (.bool (decide (evsOk l Q))) (dv_move (T rfl rfl)) ?_
   refine lw_v (.bool (decide (evsOk l Q))) (dv_move (T rfl rfl)) ?_
   refine lw_v (.bool ((decide (evsOk l Q)) != (decide (evsOk l Q)))) (dv_neqb (a := decide (evsOk l Q)) (b := decide (evsOk l Q)) ub4 (T rfl rfl) (T rfl rfl)) ?_
   refine lw_nil ?_
   rcases Bool.eq_false_or_eq_true ((decide (evsOk l Q)) != (decide (evsOk l Q))) with hb27 | hb27
   · refine rk_ct (T rfl (congrArg Value.bool hb27)) ?_
     refine rk_seq ?_
     refine rk_reg ?_
     refine lw_v (.bool false) (dv_assign C) ?_
     refine lw_nil ?_
     refine rk_ret Try.func4 (v := .bool false) (res1 Try.results4 (rv_tmp rfl rfl)) ⟨_, rfl, ?_⟩
     exact ⟨(by exfalso; first | contradiction | exact absurd rfl (by assumption) | omega | (simp at hb27; done)), E26⟩
   · refine rk_cf (T rfl (congrArg Value.bool hb27)) ?_
     refine rk_skip ?_
     refine rk_seq ?_
     refine rk_seq ?_
     refine rk_reg ?_
     refine lw_v (.slice At18 l l) (dv_move (T rfl rfl)) ?_
     refine lw_v (.slice A l c) (dv_move (T rfl rfl)) ?_
     have h28 := ((h17.ext e22).ext e25)
     refine lw_e (oe_callf (vs := [.slice A l c]) co17 (ar1 (T rfl rfl)) (toEventS_ok (c := c) h28 (by omega) hxf) ?_)
     rintro _ w32 ⟨At29, St30, rfl, e33, hNt31⟩
     have E34 := below_ext E26 E26.size e33
     have := hNt31.lh
     have h35 := ((hNt20.ext e25).ext e33)
     refine lw_e (oe_callf (vs := [.slice At18 l l, .slice At29 l l]) co19 (ar2 (T rfl rfl) (T rfl rfl)) (eqEventS_ok (c := l) (d := l) h35.nr (by omega) hxf hNt31.nr) ?_)
     rintro _ w36 ⟨rfl, e37⟩
     have E38 := below_ext E34 E34.size e37
     refine lw_v (.bool false) (dv_not (b := true) (T rfl rfl)) ?_
     refine lw_nil ?_
     refine rk_cf (T rfl rfl) ?_
     refine rk_skip ?_
     refine rk_seq ?_
     refine rk_reg ?_
     refine lw_v (.bool true) (dv_assign C) ?_
     refine lw_nil ?_
     refine rk_ret Try.func4 (v := .bool true) (res1 Try.results4 (rv_tmp rfl rfl)) ⟨_, rfl, ?_⟩
     exact ⟨rfl, E38⟩
theorem lawEventsOk_w {w : World} {A : Option Addr} {l c : Nat} {W : Nat → Nat → Int} {E : Nat → List Int} {SL : SlF} (hx : NR w 0 w.heap.size A l W E SL) (hlc : l ≤ c) (hcm : c ≤ 9223372036854775807) (hSm : ∀ i, i < l → (SL i).2 ≤ 9223372036854775807) (hW : ∀ i, i < l → ∀ j, j < 12 → 0 ≤ W i j ∧ W i j < 18446744073709551616) : Ct Try.prog 4 [.slice A l c] w fun v w1 => v = .bool true ∧ Ext w w1 := by
 obtain ⟨Q, hQ, hE, hf⟩ := evs_of E hW
 have hx2 : NR w 0 w.heap.size A l (fun i_ => evW (Q i_)) (fun i_ => (Q i_).es) SL := hx.congr hQ (fun i _ => hE i)
 exact lawEventsOk_ok hx2 hlc hcm (fun i hi => Nat.le_trans (hx2.cap hi) (hSm i hi)) hf
end Go.Proofs.Ytmbpomcbdopgnaa.W
