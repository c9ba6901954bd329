/- Walks and plain mathematics, packed by a program of this session: declarations that the rows reach. -/
import Derived.Test.YtmbpomcbdopgnaaPte
set_option linter.unusedVariables false
set_option linter.unusedSimpArgs false
namespace Go.Proofs.Ytmbpomcbdopgnaa.W
open Go Go.RowKit Go.Proofs.Ytmbpomcbdopgnaa.Fw
attribute [local irreducible] RunK LW AW DV OE Ct
theorem co50 : callOk Try.prog 50 = true := by kernel_rfl
theorem co51 : callOk Try.prog 51 = true := by kernel_rfl
theorem co55 : callOk Try.prog 55 = true := by kernel_rfl
theorem co56 : callOk Try.prog 56 = true := by kernel_rfl
theorem co57 : callOk Try.prog 57 = true := by kernel_rfl
set_option maxHeartbeats 1000000 in
theorem rise_ok {w : World} {A : Option Addr} {l c : Nat} {xs : List Int} (hx : RdI w .i64 A xs) (hxl : xs.length = l) (hxb : l ≤ 1048576) : Ct Try.prog 56 [.slice A l c, .int .i64 0, .int .i64 39] w fun v w1 => v = .bool (decide (riseP xs)) ∧ Ext w w1 := by
 refine ct_run (n := 35) Try.func56 rfl Try.ntmps56 rfl ?_
 have E0 : Below w.heap.size w w := Below.refl _ _
 refine rk_seq ?_
 refine rk_reg ?_
 refine lw_v (.bool false) (dv_assign C) ?_
 refine lw_nil ?_
 refine rk_seq ?_
 refine rk_seq ?_
 refine rk_reg ?_
 refine lw_v (.slice A l c) (dv_move (T rfl rfl)) ?_
 refine lw_v (.int .i64 ((l : Int))) (dv_len (ad := A) (l := l) (c := c) us50 (T rfl rfl)) ?_
 refine lw_v (.int .i64 0) (dv_move C) ?_
 refine lw_nil ?_
 refine rk_block ?_
 refine rk_loop (fun dm_ fr wl => ∃ (i : Nat), dm_ = l - i ∧ fr 0 = .slice A l c ∧ fr 1 = .int .i64 0 ∧ fr 2 = .int .i64 39 ∧ fr 9 = .slice A l c ∧ fr 10 = .int .i64 ((l : Int)) ∧ fr 11 = .int .i64 ((i : Int)) ∧ Below w.heap.size w wl ∧ (i ≤ l) ∧ (∀ k, k < i → riseAt xs k)) (l - 0) ⟨0, rfl, rfl, rfl, rfl, rfl, rfl, (vi (by omega)), E0, (Nat.zero_le _), (fun k hk => absurd hk (by omega))⟩ ?_
 intro d5 fr4 w1 hI2 ih3
 obtain ⟨i, hd13, f6, f7, f8, f9, f10, f11, E12, hi, hall⟩ := hI2
 refine rk_seq ?_
 refine rk_reg ?_
 refine lw_v (.bool (decide (((i : Int)) < ((l : Int))))) (dv_lss (a := (i : Int)) (b := (l : Int)) (T rfl f11) (T rfl f10)) ?_
 refine lw_nil ?_
 refine rk_seq ?_
 by_cases hb14 : ((i : Int)) < ((l : Int))
 · refine rk_ct (T rfl (congrArg Value.bool (decide_eq_true hb14))) ?_
   refine rk_skip ?_
   refine rk_seq ?_
   refine rk_block ?_
   refine rk_seq ?_
   refine rk_reg ?_
   refine lw_v (.int .i64 ((i : Int))) (dv_move (T rfl f11)) ?_
   have h15 := (hx.ext E12)
   obtain ⟨g16, o17, rfl⟩ := RdI.at h15 (by first | omega | (simp; done) | (simp; omega))
   refine lw_v (.pointer (some ⟨g16, o17 + i, none⟩)) (dv_indexW (g := g16) (o := o17) (l := l) (c := c) (i := i) (j := (i : Int)) us50 sz2 (T rfl f9) (T rfl f11) (by omega) (by first | omega | (simp; done) | (simp; omega))) ?_
   refine lw_v (.int .i64 (xs.getD i 0)) (dv_load agt2 (T rfl rfl) (RdI.cell h15 (by first | omega | (simp; done) | (simp; omega)))) ?_
   refine lw_v (.int .i64 ((i : Int))) (dv_assign (T rfl rfl)) ?_
   refine lw_v (.int .i64 (xs.getD i 0)) (dv_assign (T rfl rfl)) ?_
   refine lw_nil ?_
   refine rk_seq ?_
   refine rk_reg ?_
   refine lw_v (.int .i64 (xs.getD i 0)) (dv_move (T rfl rfl)) ?_
   refine lw_v (.int .i64 0) (dv_move (T rfl f7)) ?_
   refine lw_v (.int .i64 39) (dv_move (T rfl f8)) ?_
   refine lw_e (oe_callf (vs := [.int .i64 (xs.getD i 0), .int .i64 0, .int .i64 39]) co46 (ar3 (T rfl rfl) (T rfl rfl) (T rfl rfl)) (within_ok (n := xs.getD i 0) (lo := 0) (hi := 39)  ) ?_)
   rintro _ w18 ⟨rfl, e19⟩
   have E20 := below_ext E12 E12.size e19
   refine lw_v (.bool (decide (¬ ((0 : Int) ≤ (xs.getD i 0) ∧ (xs.getD i 0) ≤ (39 : Int))))) (dv_notd (p := (0 : Int) ≤ (xs.getD i 0) ∧ (xs.getD i 0) ≤ (39 : Int)) (T rfl rfl)) ?_
   refine lw_v (.bool (decide (¬ ((0 : Int) ≤ (xs.getD i 0) ∧ (xs.getD i 0) ≤ (39 : Int))))) (dv_move (T rfl rfl)) ?_
   by_cases hb21 : (0 : Int) ≤ (xs.getD i 0) ∧ (xs.getD i 0) ≤ (39 : Int)
   · refine lw_vy (.int .i64 ((i : Int))) (d := 21) rfl rfl (congrArg Value.bool (decide_eq_false (not_not_intro hb21))) (dv_move (T rfl rfl)) ?_
     refine lw_vy (.bool (decide (0 < ((i : Int))))) (d := 21) rfl rfl (congrArg Value.bool (decide_eq_false (not_not_intro hb21))) (dv_gtr (a := (i : Int)) (b := 0) (T rfl rfl) C) ?_
     refine lw_vy (.bool (decide (0 < ((i : Int))))) (d := 21) rfl rfl (congrArg Value.bool (decide_eq_false (not_not_intro hb21))) (dv_move (T rfl rfl)) ?_
     by_cases hb22 : 0 < ((i : Int))
     · refine lw_vy (.int .i64 (xs.getD i 0)) (d := 24) rfl rfl (congrArg Value.bool (decide_eq_true hb22)) (dv_move (T rfl rfl)) ?_
       refine lw_vy (.slice (some ⟨g16, o17, none⟩) l c) (d := 24) rfl rfl (congrArg Value.bool (decide_eq_true hb22)) (dv_move (T rfl f6)) ?_
       refine lw_vy (.int .i64 ((i : Int))) (d := 24) rfl rfl (congrArg Value.bool (decide_eq_true hb22)) (dv_move (T rfl rfl)) ?_
       refine lw_vy (.int .i64 (((i : Int)) - 1)) (d := 24) rfl rfl (congrArg Value.bool (decide_eq_true hb22)) (dv_sub (a := (i : Int)) (b := 1) (z := ((i : Int)) - 1) (T rfl rfl) C (wr_i64 (by omega) (by omega))) ?_
       refine lw_vy (.pointer (some ⟨g16, o17 + ((i) - 1), none⟩)) (d := 24) rfl rfl (congrArg Value.bool (decide_eq_true hb22)) (dv_indexW (g := g16) (o := o17) (l := l) (c := c) (i := ((i) - 1)) (j := ((i : Int)) - 1) us50 sz2 (T rfl rfl) (T rfl rfl) (by omega) (by first | omega | (simp; done) | (simp; omega))) ?_
       have h23 := (h15.ext e19)
       refine lw_vy (.int .i64 (xs.getD (((i) - 1)) 0)) (d := 24) rfl rfl (congrArg Value.bool (decide_eq_true hb22)) (dv_load agt2 (T rfl rfl) (RdI.cell h23 (by first | omega | (simp; done) | (simp; omega)))) ?_
       refine lw_vy (.bool (decide ((xs.getD i 0) ≤ (xs.getD (((i) - 1)) 0)))) (d := 24) rfl rfl (congrArg Value.bool (decide_eq_true hb22)) (dv_leq (a := xs.getD i 0) (b := xs.getD (((i) - 1)) 0) (T rfl rfl) (T rfl rfl)) ?_
       refine lw_vy (.bool (decide ((xs.getD i 0) ≤ (xs.getD (((i) - 1)) 0)))) (d := 21) rfl rfl (congrArg Value.bool (decide_eq_false (not_not_intro hb21))) (dv_pick_t (T rfl (congrArg Value.bool (decide_eq_true hb22))) (T rfl rfl)) ?_
       refine lw_v (.bool (decide ((xs.getD i 0) ≤ (xs.getD (((i) - 1)) 0)))) (dv_pick_f (T rfl (congrArg Value.bool (decide_eq_false (not_not_intro hb21)))) (T rfl rfl)) ?_
       refine lw_nil ?_
       by_cases hb24 : (xs.getD i 0) ≤ (xs.getD (((i) - 1)) 0)
       · refine rk_ct (T rfl (congrArg Value.bool (decide_eq_true hb24))) ?_
         refine rk_seq ?_
         refine rk_reg ?_
         refine lw_v (.bool false) (dv_assign C) ?_
         refine lw_nil ?_
         refine rk_ret Try.func56 (v := .bool false) (res1 Try.results56 (rv_tmp rfl rfl)) ⟨_, rfl, ?_⟩
         exact ⟨(vf (fun hh_ => by have hh := hh_ i (by omega); first | exact absurd hh.1 (by assumption) | (have h2_ := hh.2 (by omega); omega) | (have h1_ := hh.1; omega))), E20⟩
       · refine rk_cf (T rfl (congrArg Value.bool (decide_eq_false hb24))) ?_
         refine rk_skip ?_
         refine rk_inBlock ?_
         refine rk_reg ?_
         refine lw_v (.int .i64 (((i : Int)) + 1)) (dv_add (a := (i : Int)) (b := 1) (z := ((i : Int)) + 1) (T rfl f11) C (wr_i64 (by omega) (by omega))) ?_
         refine lw_v (.int .i64 (((i : Int)) + 1)) (dv_move (T rfl rfl)) ?_
         refine lw_nil ?_
         exact ih3 (l - ((i + 1))) _ _ (by rw [hd13]; omega) ⟨(i + 1), rfl, f6, f7, f8, f9, f10, (vi (by omega)), E20, (by omega), (all_step hall ⟨(by first | assumption | exact Decidable.not_not.1 (by assumption)), fun h0_ => by first | omega | (exfalso; omega)⟩)⟩
     · refine lw_no (d := 24) rfl rfl (congrArg Value.bool (decide_eq_false hb22)) ?_
       refine lw_no (d := 24) rfl rfl (congrArg Value.bool (decide_eq_false hb22)) ?_
       refine lw_no (d := 24) rfl rfl (congrArg Value.bool (decide_eq_false hb22)) ?_
       refine lw_no (d := 24) rfl rfl (congrArg Value.bool (decide_eq_false hb22)) ?_
       refine lw_no (d := 24) rfl rfl (congrArg Value.bool (decide_eq_false hb22)) ?_
       refine lw_no (d := 24) rfl rfl (congrArg Value.bool (decide_eq_false hb22)) ?_
       refine lw_no (d := 24) rfl rfl (congrArg Value.bool (decide_eq_false hb22)) ?_
       refine lw_vy (.bool false) (d := 21) rfl rfl (congrArg Value.bool (decide_eq_false (not_not_intro hb21))) (dv_pick_f (T rfl (congrArg Value.bool (decide_eq_false hb22))) C) ?_
       refine lw_v (.bool false) (dv_pick_f (T rfl (congrArg Value.bool (decide_eq_false (not_not_intro hb21)))) (T rfl rfl)) ?_
       refine lw_nil ?_
       refine rk_cf (T rfl rfl) ?_
       refine rk_skip ?_
       refine rk_inBlock ?_
       refine rk_reg ?_
       refine lw_v (.int .i64 (((i : Int)) + 1)) (dv_add (a := (i : Int)) (b := 1) (z := ((i : Int)) + 1) (T rfl f11) C (wr_i64 (by omega) (by omega))) ?_
       refine lw_v (.int .i64 (((i : Int)) + 1)) (dv_move (T rfl rfl)) ?_
       refine lw_nil ?_
       exact ih3 (l - ((i + 1))) _ _ (by rw [hd13]; omega) ⟨(i + 1), rfl, f6, f7, f8, f9, f10, (vi (by omega)), E20, (by omega), (all_step hall ⟨(by first | assumption | exact Decidable.not_not.1 (by assumption)), fun h0_ => by first | omega | (exfalso; omega)⟩)⟩
   · refine lw_no (d := 21) rfl rfl (congrArg Value.bool (decide_eq_true hb21)) ?_
     refine lw_no (d := 21) rfl rfl (congrArg Value.bool (decide_eq_true hb21)) ?_
     refine lw_no (d := 21) rfl rfl (congrArg Value.bool (decide_eq_true hb21)) ?_
     refine lw_nou (d := 24) rfl rfl ?_
     refine lw_nou (d := 24) rfl rfl ?_
     refine lw_nou (d := 24) rfl rfl ?_
     refine lw_nou (d := 24) rfl rfl ?_
     refine lw_nou (d := 24) rfl rfl ?_
     refine lw_nou (d := 24) rfl rfl ?_
     refine lw_nou (d := 24) rfl rfl ?_
     refine lw_no (d := 21) rfl rfl (congrArg Value.bool (decide_eq_true hb21)) ?_
     refine lw_v (.bool true) (dv_pick_t (T rfl (congrArg Value.bool (decide_eq_true hb21))) C) ?_
     refine lw_nil ?_
     refine rk_ct (T rfl rfl) ?_
     refine rk_seq ?_
     refine rk_reg ?_
     refine lw_v (.bool false) (dv_assign C) ?_
     refine lw_nil ?_
     refine rk_ret Try.func56 (v := .bool false) (res1 Try.results56 (rv_tmp rfl rfl)) ⟨_, rfl, ?_⟩
     exact ⟨(vf (fun hh_ => by have hh := hh_ i (by omega); first | exact absurd hh.1 (by assumption) | (have h2_ := hh.2 (by omega); omega) | (have h1_ := hh.1; omega))), E20⟩
 · refine rk_cf (T rfl (congrArg Value.bool (decide_eq_false hb14))) ?_
   refine rk_exit rfl ?_
   refine rk_seq ?_
   refine rk_reg ?_
   refine lw_v (.bool true) (dv_assign C) ?_
   refine lw_nil ?_
   refine rk_ret Try.func56 (v := .bool true) (res1 Try.results56 (rv_tmp rfl rfl)) ⟨_, rfl, ?_⟩
   exact ⟨(vt (fun k hk => hall k (by omega))), E12⟩
set_option maxHeartbeats 1000000 in
theorem iEventsOk_ok {w : World} {A : Option Addr} {l c : Nat} {Q : Nat → Ev} {SL : SlF} {lo hi : Nat} (hx : NR w lo hi A l (fun i_ => evW (Q i_)) (fun i_ => (Q i_).es) SL) (hxb : l ≤ 1048576) (hxf : evF l Q) : Ct Try.prog 18 [.slice A l c] w fun v w1 => v = .bool (decide (evsOk l Q)) ∧ Ext w w1 := by
 refine ct_run (n := 48) Try.func18 rfl Try.ntmps18 rfl ?_
 have E0 : Below w.heap.size w w := Below.refl _ _
 have hhi := hx.lh
 refine rk_seq ?_
 refine rk_reg ?_
 refine lw_v (.bool false) (dv_assign C) ?_
 refine lw_nil ?_
 refine rk_seq ?_
 refine rk_seq ?_
 refine rk_reg ?_
 refine lw_v (.slice A l c) (dv_move (T rfl rfl)) ?_
 refine lw_v (.int .i64 ((l : Int))) (dv_len (ad := A) (l := l) (c := c) us46 (T rfl rfl)) ?_
 refine lw_v (.bool (decide (200 < ((l : Int))))) (dv_gtr (a := (l : Int)) (b := 200) (T rfl rfl) C) ?_
 refine lw_nil ?_
 by_cases hb1 : 200 < ((l : Int))
 · refine rk_ct (T rfl (congrArg Value.bool (decide_eq_true hb1))) ?_
   refine rk_seq ?_
   refine rk_reg ?_
   refine lw_v (.bool false) (dv_assign C) ?_
   refine lw_nil ?_
   refine rk_ret Try.func18 (v := .bool false) (res1 Try.results18 (rv_tmp rfl rfl)) ⟨_, rfl, ?_⟩
   exact ⟨(vf (fun hh => by have h_ := hh.1; omega)), E0⟩
 · refine rk_cf (T rfl (congrArg Value.bool (decide_eq_false hb1))) ?_
   refine rk_skip ?_
   refine rk_seq ?_
   refine rk_seq ?_
   refine rk_reg ?_
   refine lw_v (.slice A l c) (dv_move (T rfl rfl)) ?_
   refine lw_v (.int .i64 ((l : Int))) (dv_len (ad := A) (l := l) (c := c) us46 (T rfl rfl)) ?_
   refine lw_v (.int .i64 0) (dv_move C) ?_
   refine lw_nil ?_
   refine rk_block ?_
   refine rk_loop (fun dm_ fr wl => ∃ (i : Nat), dm_ = l - i ∧ fr 0 = .slice A l c ∧ fr 8 = .slice A l c ∧ fr 9 = .int .i64 ((l : Int)) ∧ fr 10 = .int .i64 ((i : Int)) ∧ Below w.heap.size w wl ∧ (i ≤ l) ∧ (∀ k, k < i → evOkAt Q k)) (l - 0) ⟨0, rfl, rfl, rfl, rfl, (vi (by omega)), E0, (Nat.zero_le _), (fun k hk => absurd hk (by omega))⟩ ?_
   intro d6 fr5 w2 hI3 ih4
   obtain ⟨i, hd12, f7, f8, f9, f10, E11, hi_, hall⟩ := hI3
   obtain ⟨As13, hAs15⟩ : ∃ q_ : Option Addr, q_ = (SL i).1 := ⟨_, rfl⟩
   obtain ⟨cs14, hcs16⟩ : ∃ q_ : Nat, q_ = (SL i).2 := ⟨_, rfl⟩
   have hen : i < l → (Q i).es.length ≤ 1048576 := fun h_ => evF.n hxf h_
   refine rk_seq ?_
   refine rk_reg ?_
   refine lw_v (.bool (decide (((i : Int)) < ((l : Int))))) (dv_lss (a := (i : Int)) (b := (l : Int)) (T rfl f10) (T rfl f9)) ?_
   refine lw_nil ?_
   refine rk_seq ?_
   by_cases hb17 : ((i : Int)) < ((l : Int))
   · refine rk_ct (T rfl (congrArg Value.bool (decide_eq_true hb17))) ?_
     refine rk_skip ?_
     refine rk_seq ?_
     refine rk_block ?_
     refine rk_seq ?_
     refine rk_reg ?_
     refine lw_v (.int .i64 ((i : Int))) (dv_move (T rfl f10)) ?_
     have h20 := (hx.ext E11)
     obtain ⟨g18, o19, rfl⟩ := NR.at h20 (by first | omega | (simp; done) | (simp; omega))
     refine lw_v (.pointer (some ⟨g18, o19 + i * 13, none⟩)) (dv_indexM (g := g18) (o := o19) (l := l) (c := c) (i := i) (j := (i : Int)) (m := 13) us46 sz52 (T rfl f8) (T rfl f10) (by omega) (by first | omega | (simp; done) | (simp; omega))) ?_
     refine lw_v (.agg #[.int .u64 (wv3 ((Q i).x)), .int .u64 (wv2 ((Q i).x)), .int .u64 (wv1 ((Q i).x)), .int .u64 (wv0 ((Q i).x)), .int .u64 (wv3 ((Q i).y)), .int .u64 (wv2 ((Q i).y)), .int .u64 (wv1 ((Q i).y)), .int .u64 (wv0 ((Q i).y)), .int .u64 (wv3 ((Q i).u)), .int .u64 (wv2 ((Q i).u)), .int .u64 (wv1 ((Q i).u)), .int .u64 (wv0 ((Q i).u)), .slice As13 ((Q i).es.length) cs14]) (dv_loadsR (l := [.int .u64 (wv3 ((Q i).x)), .int .u64 (wv2 ((Q i).x)), .int .u64 (wv1 ((Q i).x)), .int .u64 (wv0 ((Q i).x)), .int .u64 (wv3 ((Q i).y)), .int .u64 (wv2 ((Q i).y)), .int .u64 (wv1 ((Q i).y)), .int .u64 (wv0 ((Q i).y)), .int .u64 (wv3 ((Q i).u)), .int .u64 (wv2 ((Q i).u)), .int .u64 (wv1 ((Q i).u)), .int .u64 (wv0 ((Q i).u)), .slice As13 ((Q i).es.length) cs14]) agt52 sz52 (T rfl rfl) rfl (NR.evA (i := i) h20 (by first | omega | (simp; done) | (simp; omega)) hAs15 hcs16)) ?_
     refine lw_e (oe_alloc ze52 ?_)
     intro b21 w22 n23
     have N24 : w.heap.size ≤ b21 := n23.eq ▸ E11.size
     have E25 := below_ext E11 E11.size n23.ext
     refine lw_v (.int .i64 ((i : Int))) (dv_assign (T rfl rfl)) ?_
     refine lw_e (oe_store (v := .agg #[.int .u64 (wv3 ((Q i).x)), .int .u64 (wv2 ((Q i).x)), .int .u64 (wv1 ((Q i).x)), .int .u64 (wv0 ((Q i).x)), .int .u64 (wv3 ((Q i).y)), .int .u64 (wv2 ((Q i).y)), .int .u64 (wv1 ((Q i).y)), .int .u64 (wv0 ((Q i).y)), .int .u64 (wv3 ((Q i).u)), .int .u64 (wv2 ((Q i).u)), .int .u64 (wv1 ((Q i).u)), .int .u64 (wv0 ((Q i).u)), .slice As13 ((Q i).es.length) cs14]) (vs := [.int .u64 (wv3 ((Q i).x)), .int .u64 (wv2 ((Q i).x)), .int .u64 (wv1 ((Q i).x)), .int .u64 (wv0 ((Q i).x)), .int .u64 (wv3 ((Q i).y)), .int .u64 (wv2 ((Q i).y)), .int .u64 (wv1 ((Q i).y)), .int .u64 (wv0 ((Q i).y)), .int .u64 (wv3 ((Q i).u)), .int .u64 (wv2 ((Q i).u)), .int .u64 (wv1 ((Q i).u)), .int .u64 (wv0 ((Q i).u)), .slice As13 ((Q i).es.length) cs14]) (l := [.int .u64 (wv3 ((Q i).x)), .int .u64 (wv2 ((Q i).x)), .int .u64 (wv1 ((Q i).x)), .int .u64 (wv0 ((Q i).x)), .int .u64 (wv3 ((Q i).y)), .int .u64 (wv2 ((Q i).y)), .int .u64 (wv1 ((Q i).y)), .int .u64 (wv0 ((Q i).y)), .int .u64 (wv3 ((Q i).u)), .int .u64 (wv2 ((Q i).u)), .int .u64 (wv1 ((Q i).u)), .int .u64 (wv0 ((Q i).u)), .slice As13 ((Q i).es.length) cs14]) (T rfl rfl) (T rfl rfl) sz52 rfl rfl rfl n23.blk rfl ?_)
     intro w26 s27 H28
     have E29 := below_st E25 N24 s27
     refine lw_nil ?_
     refine rk_seq ?_
     refine rk_any (fun w => w.heap[b21]? = some (.cells #[.int .u64 (wv3 ((Q i).x)), .int .u64 (wv2 ((Q i).x)), .int .u64 (wv1 ((Q i).x)), .int .u64 (wv0 ((Q i).x)), .int .u64 (wv3 ((Q i).y)), .int .u64 (wv2 ((Q i).y)), .int .u64 (wv1 ((Q i).y)), .int .u64 (wv0 ((Q i).y)), .int .u64 (wv3 ((Q i).u)), .int .u64 (wv2 ((Q i).u)), .int .u64 (wv1 ((Q i).u)), .int .u64 (wv0 ((Q i).u)), .slice As13 ((Q i).es.length) cs14] 52) ∧ NR w lo hi (some ⟨g18, o19, none⟩) l (fun i_ => evW (Q i_)) (fun i_ => (Q i_).es) SL) [] mo ?_
     intro w30 d31
     have E32 := below_ext E29 E29.size d31.ext
     have H33 := (d31.ext.blk H28)
     have h34 := (((h20.ext n23.ext).st s27 (by omega)).ext d31.ext)
     refine aw_pure 0 (.pointer (some ⟨b21, 0, none⟩)) rfl (by kernel_rfl) .none ⟨H33, h34⟩ (fun _ => dv_fieldAddr (a := ⟨b21, 0, none⟩) (a' := ⟨b21, 0, none⟩) fo52_0 (T rfl rfl) rfl) ?_
     refine aw_load 1 (.agg #[.int .u64 (wv3 ((Q i).x)), .int .u64 (wv2 ((Q i).x)), .int .u64 (wv1 ((Q i).x)), .int .u64 (wv0 ((Q i).x)), .int .u64 (wv3 ((Q i).y)), .int .u64 (wv2 ((Q i).y)), .int .u64 (wv1 ((Q i).y)), .int .u64 (wv0 ((Q i).y)), .int .u64 (wv3 ((Q i).u)), .int .u64 (wv2 ((Q i).u)), .int .u64 (wv1 ((Q i).u)), .int .u64 (wv0 ((Q i).u))]) rfl (by kernel_rfl) .none ⟨H33, h34⟩ (fun _ s => dv_loads (l := [.int .u64 (wv3 ((Q i).x)), .int .u64 (wv2 ((Q i).x)), .int .u64 (wv1 ((Q i).x)), .int .u64 (wv0 ((Q i).x)), .int .u64 (wv3 ((Q i).y)), .int .u64 (wv2 ((Q i).y)), .int .u64 (wv1 ((Q i).y)), .int .u64 (wv0 ((Q i).y)), .int .u64 (wv3 ((Q i).u)), .int .u64 (wv2 ((Q i).u)), .int .u64 (wv1 ((Q i).u)), .int .u64 (wv0 ((Q i).u))]) agt40 sz40 (T rfl rfl) s.1 rfl) ?_
     refine aw_one 2 rfl (by kernel_rfl) .none (oe_callf (vs := [.agg #[.int .u64 (wv3 ((Q i).x)), .int .u64 (wv2 ((Q i).x)), .int .u64 (wv1 ((Q i).x)), .int .u64 (wv0 ((Q i).x)), .int .u64 (wv3 ((Q i).y)), .int .u64 (wv2 ((Q i).y)), .int .u64 (wv1 ((Q i).y)), .int .u64 (wv0 ((Q i).y)), .int .u64 (wv3 ((Q i).u)), .int .u64 (wv2 ((Q i).u)), .int .u64 (wv1 ((Q i).u)), .int .u64 (wv0 ((Q i).u))]]) co55 (ar1 (T rfl rfl)) (iPointOk_ok (x := (Q i).x) (y := (Q i).y) (u := (Q i).u) (evF.x hxf (i := i) (by omega)) (evF.y hxf (i := i) (by omega)) (evF.u hxf (i := i) (by omega)) ) ?_)
     rintro _ w35 ⟨rfl, e36⟩
     have E37 := below_ext E32 E32.size e36
     have H38 := (e36.blk H33)
     have h39 := (h34.ext e36)
     refine ⟨.inr ⟨H38, h39⟩, ?_⟩
     refine aw_pure 3 (.bool (decide (¬ (pOk ((Q i).x) ((Q i).y) ((Q i).u))))) rfl (by kernel_rfl) .none ⟨H38, h39⟩ (fun _ => dv_notd (p := pOk ((Q i).x) ((Q i).y) ((Q i).u)) (T rfl rfl)) ?_
     refine aw_pure 4 (.bool (decide (¬ (pOk ((Q i).x) ((Q i).y) ((Q i).u))))) rfl (by kernel_rfl) .none ⟨H38, h39⟩ (fun _ => dv_move (T rfl rfl)) ?_
     by_cases hb40 : pOk ((Q i).x) ((Q i).y) ((Q i).u)
     · refine aw_pure 5 (.pointer (some ⟨b21, 12, none⟩)) rfl (by kernel_rfl) (.yes (d := 19) rfl rfl (congrArg Value.bool (decide_eq_false (not_not_intro hb40)))) ⟨H38, h39⟩ (fun _ => dv_fieldAddr (a := ⟨b21, 0, none⟩) (a' := ⟨b21, 12, none⟩) fo52_1 (T rfl rfl) rfl) ?_
       refine aw_load 6 (.slice As13 ((Q i).es.length) cs14) rfl (by kernel_rfl) (.yes (d := 19) rfl rfl (congrArg Value.bool (decide_eq_false (not_not_intro hb40)))) ⟨H38, h39⟩ (fun _ s => dv_load1 (b := b21) (o := 12) agt50 (T rfl rfl) s.1 rfl) ?_
       refine aw_pure 7 (.int .i64 (((Q i).es.length : Int))) rfl (by kernel_rfl) (.yes (d := 19) rfl rfl (congrArg Value.bool (decide_eq_false (not_not_intro hb40)))) ⟨H38, h39⟩ (fun _ => dv_len (ad := As13) (l := (Q i).es.length) (c := cs14) us50 (T rfl rfl)) ?_
       refine aw_pure 8 (.bool (decide ((((Q i).es.length : Int)) = 0))) rfl (by kernel_rfl) (.yes (d := 19) rfl rfl (congrArg Value.bool (decide_eq_false (not_not_intro hb40)))) ⟨H38, h39⟩ (fun _ => dv_eql (a := ((Q i).es.length : Int)) (b := 0) (T rfl rfl) C) ?_
       refine aw_pure 9 (.bool (decide ((((Q i).es.length : Int)) = 0))) rfl (by kernel_rfl) .none ⟨H38, h39⟩ (fun _ => dv_pick_f (T rfl (congrArg Value.bool (decide_eq_false (not_not_intro hb40)))) (T rfl rfl)) ?_
       refine aw_pure 10 (.bool (decide ((((Q i).es.length : Int)) = 0))) rfl (by kernel_rfl) .none ⟨H38, h39⟩ (fun _ => dv_move (T rfl rfl)) ?_
       by_cases hb41 : (((Q i).es.length : Int)) = 0
       · refine aw_no 11 rfl (by kernel_rfl) (d := 25) rfl rfl (congrArg Value.bool (decide_eq_true hb41)) ⟨H38, h39⟩ ?_
         refine aw_no 12 rfl (by kernel_rfl) (d := 25) rfl rfl (congrArg Value.bool (decide_eq_true hb41)) ⟨H38, h39⟩ ?_
         refine aw_no 13 rfl (by kernel_rfl) (d := 25) rfl rfl (congrArg Value.bool (decide_eq_true hb41)) ⟨H38, h39⟩ ?_
         refine aw_no 14 rfl (by kernel_rfl) (d := 25) rfl rfl (congrArg Value.bool (decide_eq_true hb41)) ⟨H38, h39⟩ ?_
         refine aw_pure 15 (.bool true) rfl (by kernel_rfl) .none ⟨H38, h39⟩ (fun _ => dv_pick_t (T rfl (congrArg Value.bool (decide_eq_true hb41))) C) ?_
         refine aw_pure 16 (.bool true) rfl (by kernel_rfl) .none ⟨H38, h39⟩ (fun _ => dv_move (T rfl rfl)) ?_
         refine aw_no 17 rfl (by kernel_rfl) (d := 31) rfl rfl (rfl) ⟨H38, h39⟩ ?_
         refine aw_no 18 rfl (by kernel_rfl) (d := 31) rfl rfl (rfl) ⟨H38, h39⟩ ?_
         refine aw_no 19 rfl (by kernel_rfl) (d := 31) rfl rfl (rfl) ⟨H38, h39⟩ ?_
         refine aw_nou 20 rfl (by kernel_rfl) (d := 34) rfl rfl ⟨H38, h39⟩ ?_
         refine aw_nou 21 rfl (by kernel_rfl) (d := 34) rfl rfl ⟨H38, h39⟩ ?_
         refine aw_nou 22 rfl (by kernel_rfl) (d := 34) rfl rfl ⟨H38, h39⟩ ?_
         refine aw_nou 23 rfl (by kernel_rfl) (d := 34) rfl rfl ⟨H38, h39⟩ ?_
         refine aw_nou 24 rfl (by kernel_rfl) (d := 34) rfl rfl ⟨H38, h39⟩ ?_
         refine aw_nou 25 rfl (by kernel_rfl) (d := 34) rfl rfl ⟨H38, h39⟩ ?_
         refine aw_nou 26 rfl (by kernel_rfl) (d := 34) rfl rfl ⟨H38, h39⟩ ?_
         refine aw_nou 27 rfl (by kernel_rfl) (d := 34) rfl rfl ⟨H38, h39⟩ ?_
         refine aw_nou 28 rfl (by kernel_rfl) (d := 34) rfl rfl ⟨H38, h39⟩ ?_
         refine aw_nou 29 rfl (by kernel_rfl) (d := 34) rfl rfl ⟨H38, h39⟩ ?_
         refine aw_no 30 rfl (by kernel_rfl) (d := 31) rfl rfl (rfl) ⟨H38, h39⟩ ?_
         refine aw_pure 31 (.bool true) rfl (by kernel_rfl) .none ⟨H38, h39⟩ (fun _ => dv_pick_t (T rfl rfl) C) ?_
         refine aw_done (by kernel_rfl) ?_
         refine rk_ct (T rfl rfl) ?_
         refine rk_seq ?_
         refine rk_reg ?_
         refine lw_v (.bool false) (dv_assign C) ?_
         refine lw_nil ?_
         refine rk_ret Try.func18 (v := .bool false) (res1 Try.results18 (rv_tmp rfl rfl)) ⟨_, rfl, ?_⟩
         exact ⟨(vf (fun hh_ => by have hh := hh_.2 i (by omega); first | exact absurd hh.1 (by assumption) | exact absurd hh.2.2.1 (by assumption) | (have h2_ := hh.2.1; omega) | (have h2_ := hh.2.2.2 (by omega); omega))), E37⟩
       · refine aw_pure 11 (.pointer (some ⟨b21, 12, none⟩)) rfl (by kernel_rfl) (.yes (d := 25) rfl rfl (congrArg Value.bool (decide_eq_false hb41))) ⟨H38, h39⟩ (fun _ => dv_fieldAddr (a := ⟨b21, 0, none⟩) (a' := ⟨b21, 12, none⟩) fo52_1 (T rfl rfl) rfl) ?_
         refine aw_load 12 (.slice As13 ((Q i).es.length) cs14) rfl (by kernel_rfl) (.yes (d := 25) rfl rfl (congrArg Value.bool (decide_eq_false hb41))) ⟨H38, h39⟩ (fun _ s => dv_load1 (b := b21) (o := 12) agt50 (T rfl rfl) s.1 rfl) ?_
         refine aw_one 13 rfl (by kernel_rfl) (.yes (d := 25) rfl rfl (congrArg Value.bool (decide_eq_false hb41))) (oe_callf (vs := [.slice As13 ((Q i).es.length) cs14, .int .i64 0, .int .i64 39]) co56 (ar3 (T rfl rfl) C C) (rise_ok (c := cs14) (xs := (Q i).es) (NR.rdA (i := i) h39 (by first | omega | (simp; done) | (simp; omega)) hAs15) (by first | rfl | omega) (by first | omega | (simp; done) | (simp; omega))) ?_)
         rintro _ w42 ⟨rfl, e43⟩
         have E44 := below_ext E37 E37.size e43
         have H45 := (e43.blk H38)
         have h46 := (h39.ext e43)
         refine ⟨.inr ⟨H45, h46⟩, ?_⟩
         refine aw_pure 14 (.bool (decide (¬ (riseP ((Q i).es))))) rfl (by kernel_rfl) (.yes (d := 25) rfl rfl (congrArg Value.bool (decide_eq_false hb41))) ⟨H45, h46⟩ (fun _ => dv_notd (p := riseP ((Q i).es)) (T rfl rfl)) ?_
         refine aw_pure 15 (.bool (decide (¬ (riseP ((Q i).es))))) rfl (by kernel_rfl) .none ⟨H45, h46⟩ (fun _ => dv_pick_f (T rfl (congrArg Value.bool (decide_eq_false hb41))) (T rfl rfl)) ?_
         refine aw_pure 16 (.bool (decide (¬ (riseP ((Q i).es))))) rfl (by kernel_rfl) .none ⟨H45, h46⟩ (fun _ => dv_move (T rfl rfl)) ?_
         by_cases hb47 : riseP ((Q i).es)
         · refine aw_pure 17 (.int .i64 ((i : Int))) rfl (by kernel_rfl) (.yes (d := 31) rfl rfl (congrArg Value.bool (decide_eq_false (not_not_intro hb47)))) ⟨H45, h46⟩ (fun _ => dv_move (T rfl rfl)) ?_
           refine aw_pure 18 (.bool (decide (0 < ((i : Int))))) rfl (by kernel_rfl) (.yes (d := 31) rfl rfl (congrArg Value.bool (decide_eq_false (not_not_intro hb47)))) ⟨H45, h46⟩ (fun _ => dv_gtr (a := (i : Int)) (b := 0) (T rfl rfl) C) ?_
           refine aw_pure 19 (.bool (decide (0 < ((i : Int))))) rfl (by kernel_rfl) (.yes (d := 31) rfl rfl (congrArg Value.bool (decide_eq_false (not_not_intro hb47)))) ⟨H45, h46⟩ (fun _ => dv_move (T rfl rfl)) ?_
           by_cases hb48 : 0 < ((i : Int))
           · refine aw_pure 20 (.slice (some ⟨g18, o19, none⟩) l c) rfl (by kernel_rfl) (.yes (d := 34) rfl rfl (congrArg Value.bool (decide_eq_true hb48))) ⟨H45, h46⟩ (fun _ => dv_move (T rfl f7)) ?_
             refine aw_pure 21 (.int .i64 ((i : Int))) rfl (by kernel_rfl) (.yes (d := 34) rfl rfl (congrArg Value.bool (decide_eq_true hb48))) ⟨H45, h46⟩ (fun _ => dv_move (T rfl rfl)) ?_
             refine aw_pure 22 (.int .i64 (((i : Int)) - 1)) rfl (by kernel_rfl) (.yes (d := 34) rfl rfl (congrArg Value.bool (decide_eq_true hb48))) ⟨H45, h46⟩ (fun _ => dv_sub (a := (i : Int)) (b := 1) (z := ((i : Int)) - 1) (T rfl rfl) C (wr_i64 (by omega) (by omega))) ?_
             refine aw_pure 23 (.pointer (some ⟨g18, o19 + (((i) - 1)) * 13, none⟩)) rfl (by kernel_rfl) (.yes (d := 34) rfl rfl (congrArg Value.bool (decide_eq_true hb48))) ⟨H45, h46⟩ (fun _ => dv_indexM (g := g18) (o := o19) (l := l) (c := c) (i := ((i) - 1)) (j := ((i : Int)) - 1) (m := 13) us46 sz52 (T rfl rfl) (T rfl rfl) (by omega) (by first | omega | (simp; done) | (simp; omega))) ?_
             refine aw_pure 24 (.pointer (some ⟨g18, o19 + ((((i) - 1)) * 13), none⟩)) rfl (by kernel_rfl) (.yes (d := 34) rfl rfl (congrArg Value.bool (decide_eq_true hb48))) ⟨H45, h46⟩ (fun _ => dv_fieldW (g := g18) (o := o19) (i := (((i) - 1)) * 13) fo52_0 (T rfl rfl)) ?_
             refine aw_load 25 (.agg #[.int .u64 (wv3 ((Q ((i) - 1)).x)), .int .u64 (wv2 ((Q ((i) - 1)).x)), .int .u64 (wv1 ((Q ((i) - 1)).x)), .int .u64 (wv0 ((Q ((i) - 1)).x)), .int .u64 (wv3 ((Q ((i) - 1)).y)), .int .u64 (wv2 ((Q ((i) - 1)).y)), .int .u64 (wv1 ((Q ((i) - 1)).y)), .int .u64 (wv0 ((Q ((i) - 1)).y)), .int .u64 (wv3 ((Q ((i) - 1)).u)), .int .u64 (wv2 ((Q ((i) - 1)).u)), .int .u64 (wv1 ((Q ((i) - 1)).u)), .int .u64 (wv0 ((Q ((i) - 1)).u))]) rfl (by kernel_rfl) (.yes (d := 34) rfl rfl (congrArg Value.bool (decide_eq_true hb48))) ⟨H45, h46⟩ (fun _ s => dv_loadsR (l := [.int .u64 (wv3 ((Q ((i) - 1)).x)), .int .u64 (wv2 ((Q ((i) - 1)).x)), .int .u64 (wv1 ((Q ((i) - 1)).x)), .int .u64 (wv0 ((Q ((i) - 1)).x)), .int .u64 (wv3 ((Q ((i) - 1)).y)), .int .u64 (wv2 ((Q ((i) - 1)).y)), .int .u64 (wv1 ((Q ((i) - 1)).y)), .int .u64 (wv0 ((Q ((i) - 1)).y)), .int .u64 (wv3 ((Q ((i) - 1)).u)), .int .u64 (wv2 ((Q ((i) - 1)).u)), .int .u64 (wv1 ((Q ((i) - 1)).u)), .int .u64 (wv0 ((Q ((i) - 1)).u))]) agt40 sz40 (T rfl rfl) rfl (NR.pt (i := (i) - 1) s.2 (by first | omega | (simp; done) | (simp; omega)))) ?_
             refine aw_pure 26 (.pointer (some ⟨b21, 0, none⟩)) rfl (by kernel_rfl) (.yes (d := 34) rfl rfl (congrArg Value.bool (decide_eq_true hb48))) ⟨H45, h46⟩ (fun _ => dv_fieldAddr (a := ⟨b21, 0, none⟩) (a' := ⟨b21, 0, none⟩) fo52_0 (T rfl rfl) rfl) ?_
             refine aw_load 27 (.agg #[.int .u64 (wv3 ((Q i).x)), .int .u64 (wv2 ((Q i).x)), .int .u64 (wv1 ((Q i).x)), .int .u64 (wv0 ((Q i).x)), .int .u64 (wv3 ((Q i).y)), .int .u64 (wv2 ((Q i).y)), .int .u64 (wv1 ((Q i).y)), .int .u64 (wv0 ((Q i).y)), .int .u64 (wv3 ((Q i).u)), .int .u64 (wv2 ((Q i).u)), .int .u64 (wv1 ((Q i).u)), .int .u64 (wv0 ((Q i).u))]) rfl (by kernel_rfl) (.yes (d := 34) rfl rfl (congrArg Value.bool (decide_eq_true hb48))) ⟨H45, h46⟩ (fun _ s => dv_loads (l := [.int .u64 (wv3 ((Q i).x)), .int .u64 (wv2 ((Q i).x)), .int .u64 (wv1 ((Q i).x)), .int .u64 (wv0 ((Q i).x)), .int .u64 (wv3 ((Q i).y)), .int .u64 (wv2 ((Q i).y)), .int .u64 (wv1 ((Q i).y)), .int .u64 (wv0 ((Q i).y)), .int .u64 (wv3 ((Q i).u)), .int .u64 (wv2 ((Q i).u)), .int .u64 (wv1 ((Q i).u)), .int .u64 (wv0 ((Q i).u))]) agt40 sz40 (T rfl rfl) s.1 rfl) ?_
             refine aw_one 28 rfl (by kernel_rfl) (.yes (d := 34) rfl rfl (congrArg Value.bool (decide_eq_true hb48))) (oe_callf (vs := [.agg #[.int .u64 (wv3 ((Q ((i) - 1)).x)), .int .u64 (wv2 ((Q ((i) - 1)).x)), .int .u64 (wv1 ((Q ((i) - 1)).x)), .int .u64 (wv0 ((Q ((i) - 1)).x)), .int .u64 (wv3 ((Q ((i) - 1)).y)), .int .u64 (wv2 ((Q ((i) - 1)).y)), .int .u64 (wv1 ((Q ((i) - 1)).y)), .int .u64 (wv0 ((Q ((i) - 1)).y)), .int .u64 (wv3 ((Q ((i) - 1)).u)), .int .u64 (wv2 ((Q ((i) - 1)).u)), .int .u64 (wv1 ((Q ((i) - 1)).u)), .int .u64 (wv0 ((Q ((i) - 1)).u))], .agg #[.int .u64 (wv3 ((Q i).x)), .int .u64 (wv2 ((Q i).x)), .int .u64 (wv1 ((Q i).x)), .int .u64 (wv0 ((Q i).x)), .int .u64 (wv3 ((Q i).y)), .int .u64 (wv2 ((Q i).y)), .int .u64 (wv1 ((Q i).y)), .int .u64 (wv0 ((Q i).y)), .int .u64 (wv3 ((Q i).u)), .int .u64 (wv2 ((Q i).u)), .int .u64 (wv1 ((Q i).u)), .int .u64 (wv0 ((Q i).u))]]) co57 (ar2 (T rfl rfl) (T rfl rfl)) (cmpPoints_ok (x := (Q ((i) - 1)).x) (y := (Q ((i) - 1)).y) (u := (Q ((i) - 1)).u) (p := (Q i).x) (q := (Q i).y) (r := (Q i).u) (evF.x hxf (i := ((i) - 1)) (by omega)) (evF.y hxf (i := ((i) - 1)) (by omega)) (evF.u hxf (i := ((i) - 1)) (by omega)) (evF.x hxf (i := i) (by omega)) (evF.y hxf (i := i) (by omega)) (evF.u hxf (i := i) (by omega)) ) ?_)
             rintro _ w49 ⟨rfl, e50⟩
             have E51 := below_ext E44 E44.size e50
             have := pc_rg ((Q ((i) - 1)).x) ((Q ((i) - 1)).y) ((Q ((i) - 1)).u) ((Q i).x) ((Q i).y) ((Q i).u)
             have H52 := (e50.blk H45)
             have h53 := (h46.ext e50)
             refine ⟨.inr ⟨H52, h53⟩, ?_⟩
             refine aw_pure 29 (.bool (decide (0 ≤ (pc ((Q ((i) - 1)).x) ((Q ((i) - 1)).y) ((Q ((i) - 1)).u) ((Q i).x) ((Q i).y) ((Q i).u))))) rfl (by kernel_rfl) (.yes (d := 34) rfl rfl (congrArg Value.bool (decide_eq_true hb48))) ⟨H52, h53⟩ (fun _ => dv_geq (a := pc ((Q ((i) - 1)).x) ((Q ((i) - 1)).y) ((Q ((i) - 1)).u) ((Q i).x) ((Q i).y) ((Q i).u)) (b := 0) (T rfl rfl) C) ?_
             refine aw_pure 30 (.bool (decide (0 ≤ (pc ((Q ((i) - 1)).x) ((Q ((i) - 1)).y) ((Q ((i) - 1)).u) ((Q i).x) ((Q i).y) ((Q i).u))))) rfl (by kernel_rfl) (.yes (d := 31) rfl rfl (congrArg Value.bool (decide_eq_false (not_not_intro hb47)))) ⟨H52, h53⟩ (fun _ => dv_pick_t (T rfl (congrArg Value.bool (decide_eq_true hb48))) (T rfl rfl)) ?_
             refine aw_pure 31 (.bool (decide (0 ≤ (pc ((Q ((i) - 1)).x) ((Q ((i) - 1)).y) ((Q ((i) - 1)).u) ((Q i).x) ((Q i).y) ((Q i).u))))) rfl (by kernel_rfl) .none ⟨H52, h53⟩ (fun _ => dv_pick_f (T rfl (congrArg Value.bool (decide_eq_false (not_not_intro hb47)))) (T rfl rfl)) ?_
             refine aw_done (by kernel_rfl) ?_
             by_cases hb54 : 0 ≤ (pc ((Q ((i) - 1)).x) ((Q ((i) - 1)).y) ((Q ((i) - 1)).u) ((Q i).x) ((Q i).y) ((Q i).u))
             · refine rk_ct (T rfl (congrArg Value.bool (decide_eq_true hb54))) ?_
               refine rk_seq ?_
               refine rk_reg ?_
               refine lw_v (.bool false) (dv_assign C) ?_
               refine lw_nil ?_
               refine rk_ret Try.func18 (v := .bool false) (res1 Try.results18 (rv_tmp rfl rfl)) ⟨_, rfl, ?_⟩
               exact ⟨(vf (fun hh_ => by have hh := hh_.2 i (by omega); first | exact absurd hh.1 (by assumption) | exact absurd hh.2.2.1 (by assumption) | (have h2_ := hh.2.1; omega) | (have h2_ := hh.2.2.2 (by omega); omega))), E51⟩
             · refine rk_cf (T rfl (congrArg Value.bool (decide_eq_false hb54))) ?_
               refine rk_skip ?_
               refine rk_inBlock ?_
               refine rk_reg ?_
               refine lw_v (.int .i64 (((i : Int)) + 1)) (dv_add (a := (i : Int)) (b := 1) (z := ((i : Int)) + 1) (T rfl f10) C (wr_i64 (by omega) (by omega))) ?_
               refine lw_v (.int .i64 (((i : Int)) + 1)) (dv_move (T rfl rfl)) ?_
               refine lw_nil ?_
               exact ih4 (l - ((i + 1))) _ _ (by rw [hd12]; omega) ⟨(i + 1), rfl, f7, f8, f9, (vi (by omega)), E51, (by omega), (all_step hall ⟨(by first | assumption | exact Decidable.not_not.1 (by assumption)), by omega, (by first | assumption | exact Decidable.not_not.1 (by assumption)), fun h0_ => by first | omega | (exfalso; omega)⟩)⟩
           · refine aw_no 20 rfl (by kernel_rfl) (d := 34) rfl rfl (congrArg Value.bool (decide_eq_false hb48)) ⟨H45, h46⟩ ?_
             refine aw_no 21 rfl (by kernel_rfl) (d := 34) rfl rfl (congrArg Value.bool (decide_eq_false hb48)) ⟨H45, h46⟩ ?_
             refine aw_no 22 rfl (by kernel_rfl) (d := 34) rfl rfl (congrArg Value.bool (decide_eq_false hb48)) ⟨H45, h46⟩ ?_
             refine aw_no 23 rfl (by kernel_rfl) (d := 34) rfl rfl (congrArg Value.bool (decide_eq_false hb48)) ⟨H45, h46⟩ ?_
             refine aw_no 24 rfl (by kernel_rfl) (d := 34) rfl rfl (congrArg Value.bool (decide_eq_false hb48)) ⟨H45, h46⟩ ?_
             refine aw_no 25 rfl (by kernel_rfl) (d := 34) rfl rfl (congrArg Value.bool (decide_eq_false hb48)) ⟨H45, h46⟩ ?_
             refine aw_no 26 rfl (by kernel_rfl) (d := 34) rfl rfl (congrArg Value.bool (decide_eq_false hb48)) ⟨H45, h46⟩ ?_
             refine aw_no 27 rfl (by kernel_rfl) (d := 34) rfl rfl (congrArg Value.bool (decide_eq_false hb48)) ⟨H45, h46⟩ ?_
             refine aw_no 28 rfl (by kernel_rfl) (d := 34) rfl rfl (congrArg Value.bool (decide_eq_false hb48)) ⟨H45, h46⟩ ?_
             refine aw_no 29 rfl (by kernel_rfl) (d := 34) rfl rfl (congrArg Value.bool (decide_eq_false hb48)) ⟨H45, h46⟩ ?_
             refine aw_pure 30 (.bool false) rfl (by kernel_rfl) (.yes (d := 31) rfl rfl (congrArg Value.bool (decide_eq_false (not_not_intro hb47)))) ⟨H45, h46⟩ (fun _ => dv_pick_f (T rfl (congrArg Value.bool (decide_eq_false hb48))) C) ?_
             refine aw_pure 31 (.bool false) rfl (by kernel_rfl) .none ⟨H45, h46⟩ (fun _ => dv_pick_f (T rfl (congrArg Value.bool (decide_eq_false (not_not_intro hb47)))) (T rfl rfl)) ?_
             refine aw_done (by kernel_rfl) ?_
             refine rk_cf (T rfl rfl) ?_
             refine rk_skip ?_
             refine rk_inBlock ?_
             refine rk_reg ?_
             refine lw_v (.int .i64 (((i : Int)) + 1)) (dv_add (a := (i : Int)) (b := 1) (z := ((i : Int)) + 1) (T rfl f10) C (wr_i64 (by omega) (by omega))) ?_
             refine lw_v (.int .i64 (((i : Int)) + 1)) (dv_move (T rfl rfl)) ?_
             refine lw_nil ?_
             exact ih4 (l - ((i + 1))) _ _ (by rw [hd12]; omega) ⟨(i + 1), rfl, f7, f8, f9, (vi (by omega)), E44, (by omega), (all_step hall ⟨(by first | assumption | exact Decidable.not_not.1 (by assumption)), by omega, (by first | assumption | exact Decidable.not_not.1 (by assumption)), fun h0_ => by first | omega | (exfalso; omega)⟩)⟩
         · refine aw_no 17 rfl (by kernel_rfl) (d := 31) rfl rfl (congrArg Value.bool (decide_eq_true hb47)) ⟨H45, h46⟩ ?_
           refine aw_no 18 rfl (by kernel_rfl) (d := 31) rfl rfl (congrArg Value.bool (decide_eq_true hb47)) ⟨H45, h46⟩ ?_
           refine aw_no 19 rfl (by kernel_rfl) (d := 31) rfl rfl (congrArg Value.bool (decide_eq_true hb47)) ⟨H45, h46⟩ ?_
           refine aw_nou 20 rfl (by kernel_rfl) (d := 34) rfl rfl ⟨H45, h46⟩ ?_
           refine aw_nou 21 rfl (by kernel_rfl) (d := 34) rfl rfl ⟨H45, h46⟩ ?_
           refine aw_nou 22 rfl (by kernel_rfl) (d := 34) rfl rfl ⟨H45, h46⟩ ?_
           refine aw_nou 23 rfl (by kernel_rfl) (d := 34) rfl rfl ⟨H45, h46⟩ ?_
           refine aw_nou 24 rfl (by kernel_rfl) (d := 34) rfl rfl ⟨H45, h46⟩ ?_
           refine aw_nou 25 rfl (by kernel_rfl) (d := 34) rfl rfl ⟨H45, h46⟩ ?_
           refine aw_nou 26 rfl (by kernel_rfl) (d := 34) rfl rfl ⟨H45, h46⟩ ?_
           refine aw_nou 27 rfl (by kernel_rfl) (d := 34) rfl rfl ⟨H45, h46⟩ ?_
           refine aw_nou 28 rfl (by kernel_rfl) (d := 34) rfl rfl ⟨H45, h46⟩ ?_
           refine aw_nou 29 rfl (by kernel_rfl) (d := 34) rfl rfl ⟨H45, h46⟩ ?_
           refine aw_no 30 rfl (by kernel_rfl) (d := 31) rfl rfl (congrArg Value.bool (decide_eq_true hb47)) ⟨H45, h46⟩ ?_
           refine aw_pure 31 (.bool true) rfl (by kernel_rfl) .none ⟨H45, h46⟩ (fun _ => dv_pick_t (T rfl (congrArg Value.bool (decide_eq_true hb47))) C) ?_
           refine aw_done (by kernel_rfl) ?_
           refine rk_ct (T rfl rfl) ?_
           refine rk_seq ?_
           refine rk_reg ?_
           refine lw_v (.bool false) (dv_assign C) ?_
           refine lw_nil ?_
           refine rk_ret Try.func18 (v := .bool false) (res1 Try.results18 (rv_tmp rfl rfl)) ⟨_, rfl, ?_⟩
           exact ⟨(vf (fun hh_ => by have hh := hh_.2 i (by omega); first | exact absurd hh.1 (by assumption) | exact absurd hh.2.2.1 (by assumption) | (have h2_ := hh.2.1; omega) | (have h2_ := hh.2.2.2 (by omega); omega))), E44⟩
     · refine aw_no 5 rfl (by kernel_rfl) (d := 19) rfl rfl (congrArg Value.bool (decide_eq_true hb40)) ⟨H38, h39⟩ ?_
       refine aw_no 6 rfl (by kernel_rfl) (d := 19) rfl rfl (congrArg Value.bool (decide_eq_true hb40)) ⟨H38, h39⟩ ?_
       refine aw_no 7 rfl (by kernel_rfl) (d := 19) rfl rfl (congrArg Value.bool (decide_eq_true hb40)) ⟨H38, h39⟩ ?_
       refine aw_no 8 rfl (by kernel_rfl) (d := 19) rfl rfl (congrArg Value.bool (decide_eq_true hb40)) ⟨H38, h39⟩ ?_
       refine aw_pure 9 (.bool true) rfl (by kernel_rfl) .none ⟨H38, h39⟩ (fun _ => dv_pick_t (T rfl (congrArg Value.bool (decide_eq_true hb40))) C) ?_
       refine aw_pure 10 (.bool true) rfl (by kernel_rfl) .none ⟨H38, h39⟩ (fun _ => dv_move (T rfl rfl)) ?_
       refine aw_no 11 rfl (by kernel_rfl) (d := 25) rfl rfl (rfl) ⟨H38, h39⟩ ?_
       refine aw_no 12 rfl (by kernel_rfl) (d := 25) rfl rfl (rfl) ⟨H38, h39⟩ ?_
       refine aw_no 13 rfl (by kernel_rfl) (d := 25) rfl rfl (rfl) ⟨H38, h39⟩ ?_
       refine aw_no 14 rfl (by kernel_rfl) (d := 25) rfl rfl (rfl) ⟨H38, h39⟩ ?_
       refine aw_pure 15 (.bool true) rfl (by kernel_rfl) .none ⟨H38, h39⟩ (fun _ => dv_pick_t (T rfl rfl) C) ?_
       refine aw_pure 16 (.bool true) rfl (by kernel_rfl) .none ⟨H38, h39⟩ (fun _ => dv_move (T rfl rfl)) ?_
       refine aw_no 17 rfl (by kernel_rfl) (d := 31) rfl rfl (rfl) ⟨H38, h39⟩ ?_
       refine aw_no 18 rfl (by kernel_rfl) (d := 31) rfl rfl (rfl) ⟨H38, h39⟩ ?_
       refine aw_no 19 rfl (by kernel_rfl) (d := 31) rfl rfl (rfl) ⟨H38, h39⟩ ?_
       refine aw_nou 20 rfl (by kernel_rfl) (d := 34) rfl rfl ⟨H38, h39⟩ ?_
       refine aw_nou 21 rfl (by kernel_rfl) (d := 34) rfl rfl ⟨H38, h39⟩ ?_
       refine aw_nou 22 rfl (by kernel_rfl) (d := 34) rfl rfl ⟨H38, h39⟩ ?_
       refine aw_nou 23 rfl (by kernel_rfl) (d := 34) rfl rfl ⟨H38, h39⟩ ?_
       refine aw_nou 24 rfl (by kernel_rfl) (d := 34) rfl rfl ⟨H38, h39⟩ ?_
       refine aw_nou 25 rfl (by kernel_rfl) (d := 34) rfl rfl ⟨H38, h39⟩ ?_
       refine aw_nou 26 rfl (by kernel_rfl) (d := 34) rfl rfl ⟨H38, h39⟩ ?_
       refine aw_nou 27 rfl (by kernel_rfl) (d := 34) rfl rfl ⟨H38, h39⟩ ?_
       refine aw_nou 28 rfl (by kernel_rfl) (d := 34) rfl rfl ⟨H38, h39⟩ ?_
       refine aw_nou 29 rfl (by kernel_rfl) (d := 34) rfl rfl ⟨H38, h39⟩ ?_
       refine aw_no 30 rfl (by kernel_rfl) (d := 31) rfl rfl (rfl) ⟨H38, h39⟩ ?_
       refine aw_pure 31 (.bool true) rfl (by kernel_rfl) .none ⟨H38, h39⟩ (fun _ => dv_pick_t (T rfl rfl) C) ?_
       refine aw_done (by kernel_rfl) ?_
       refine rk_ct (T rfl rfl) ?_
       refine rk_seq ?_
       refine rk_reg ?_
       refine lw_v (.bool false) (dv_assign C) ?_
       refine lw_nil ?_
       refine rk_ret Try.func18 (v := .bool false) (res1 Try.results18 (rv_tmp rfl rfl)) ⟨_, rfl, ?_⟩
       exact ⟨(vf (fun hh_ => by have hh := hh_.2 i (by omega); first | exact absurd hh.1 (by assumption) | exact absurd hh.2.2.1 (by assumption) | (have h2_ := hh.2.1; omega) | (have h2_ := hh.2.2.2 (by omega); omega))), E37⟩
   · refine rk_cf (T rfl (congrArg Value.bool (decide_eq_false hb17))) ?_
     refine rk_exit rfl ?_
     refine rk_seq ?_
     refine rk_reg ?_
     refine lw_v (.bool true) (dv_assign C) ?_
     refine lw_nil ?_
     refine rk_ret Try.func18 (v := .bool true) (res1 Try.results18 (rv_tmp rfl rfl)) ⟨_, rfl, ?_⟩
     exact ⟨(vt ⟨by omega, fun k hk => hall k (by omega)⟩), E11⟩
set_option maxHeartbeats 1000000 in
theorem sEventsOk_ok {w : World} {A : Option Addr} {l c : Nat} {Q : Nat → Ev} {SL : SlF} {lo hi : Nat} (hx : NR w lo hi A l (fun i_ => evW (Q i_)) (fun i_ => (Q i_).es) SL) (hxb : l ≤ 1048576) (hxf : evF l Q) : Ct Try.prog 16 [.slice A l c] w fun v w1 => v = .bool (decide (evsOk l Q)) ∧ Ext w w1 := by
 refine ct_run (n := 95) Try.func16 rfl Try.ntmps16 rfl ?_
 have E0 : Below w.heap.size w w := Below.refl _ _
 have hhi := hx.lh
 refine rk_seq ?_
 refine rk_reg ?_
 refine lw_v (.bool false) (dv_assign C) ?_
 refine lw_nil ?_
 refine rk_seq ?_
 refine rk_seq ?_
 refine rk_reg ?_
 refine lw_v (.slice A l c) (dv_move (T rfl rfl)) ?_
 refine lw_v (.int .i64 ((l : Int))) (dv_len (ad := A) (l := l) (c := c) us46 (T rfl rfl)) ?_
 refine lw_v (.bool (decide (200 < ((l : Int))))) (dv_gtr (a := (l : Int)) (b := 200) (T rfl rfl) C) ?_
 refine lw_nil ?_
 by_cases hb1 : 200 < ((l : Int))
 · refine rk_ct (T rfl (congrArg Value.bool (decide_eq_true hb1))) ?_
   refine rk_seq ?_
   refine rk_reg ?_
   refine lw_v (.bool false) (dv_assign C) ?_
   refine lw_nil ?_
   refine rk_ret Try.func16 (v := .bool false) (res1 Try.results16 (rv_tmp rfl rfl)) ⟨_, rfl, ?_⟩
   exact ⟨(vf (fun hh => by have h_ := hh.1; omega)), E0⟩
 · refine rk_cf (T rfl (congrArg Value.bool (decide_eq_false hb1))) ?_
   refine rk_skip ?_
   refine rk_seq ?_
   refine rk_seq ?_
   refine rk_reg ?_
   refine lw_v (.int .i64 0) (dv_assign C) ?_
   refine lw_nil ?_
   refine rk_block ?_
   refine rk_loop (fun dm_ fr wl => ∃ (i : Nat), dm_ = l - i ∧ fr 0 = .slice A l c ∧ fr 3 = .int .i64 ((i : Int)) ∧ Below w.heap.size w wl ∧ (i ≤ l) ∧ (∀ k, k < i → evOkAt Q k)) (l - 0) ⟨0, rfl, rfl, (vi (by omega)), E0, (Nat.zero_le _), (fun k hk => absurd hk (by omega))⟩ ?_
   intro d6 fr5 w2 hI3 ih4
   obtain ⟨i, hd10, f7, f8, E9, hi_, hall⟩ := hI3
   obtain ⟨As11, hAs13⟩ : ∃ q_ : Option Addr, q_ = (SL i).1 := ⟨_, rfl⟩
   obtain ⟨cs12, hcs14⟩ : ∃ q_ : Nat, q_ = (SL i).2 := ⟨_, rfl⟩
   have hen : i < l → (Q i).es.length ≤ 1048576 := fun h_ => evF.n hxf h_
   refine rk_seq ?_
   refine rk_seq ?_
   refine rk_reg ?_
   refine lw_v (.int .i64 ((i : Int))) (dv_move (T rfl f8)) ?_
   refine lw_v (.slice A l c) (dv_move (T rfl f7)) ?_
   refine lw_v (.int .i64 ((l : Int))) (dv_len (ad := A) (l := l) (c := c) us46 (T rfl rfl)) ?_
   refine lw_v (.bool (decide (((i : Int)) < ((l : Int))))) (dv_lss (a := (i : Int)) (b := (l : Int)) (T rfl rfl) (T rfl rfl)) ?_
   refine lw_nil ?_
   by_cases hb15 : ((i : Int)) < ((l : Int))
   · refine rk_ct (T rfl (congrArg Value.bool (decide_eq_true hb15))) ?_
     refine rk_skip ?_
     refine rk_seq ?_
     refine rk_block ?_
     refine rk_seq ?_
     refine rk_seq ?_
     refine rk_any (fun w => NR w lo hi A l (fun i_ => evW (Q i_)) (fun i_ => (Q i_).es) SL) [] mo ?_
     intro w16 d17
     have E18 := below_ext E9 E9.size d17.ext
     have h19 := ((hx.ext E9).ext d17.ext)
     refine aw_pure 0 (.slice A l c) rfl (by kernel_rfl) .none h19 (fun _ => dv_move (T rfl f7)) ?_
     refine aw_pure 1 (.int .i64 ((i : Int))) rfl (by kernel_rfl) .none h19 (fun _ => dv_move (T rfl f8)) ?_
     obtain ⟨g20, o21, rfl⟩ := NR.at h19 (by first | omega | (simp; done) | (simp; omega))
     refine aw_pure 2 (.pointer (some ⟨g20, o21 + i * 13, none⟩)) rfl (by kernel_rfl) .none h19 (fun _ => dv_indexM (g := g20) (o := o21) (l := l) (c := c) (i := i) (j := (i : Int)) (m := 13) us46 sz52 (T rfl rfl) (T rfl rfl) (by omega) (by first | omega | (simp; done) | (simp; omega))) ?_
     refine aw_pure 3 (.pointer (some ⟨g20, o21 + (i * 13), none⟩)) rfl (by kernel_rfl) .none h19 (fun _ => dv_fieldW (g := g20) (o := o21) (i := i * 13) fo52_0 (T rfl rfl)) ?_
     refine aw_load 4 (.agg #[.int .u64 (wv3 ((Q i).x)), .int .u64 (wv2 ((Q i).x)), .int .u64 (wv1 ((Q i).x)), .int .u64 (wv0 ((Q i).x)), .int .u64 (wv3 ((Q i).y)), .int .u64 (wv2 ((Q i).y)), .int .u64 (wv1 ((Q i).y)), .int .u64 (wv0 ((Q i).y)), .int .u64 (wv3 ((Q i).u)), .int .u64 (wv2 ((Q i).u)), .int .u64 (wv1 ((Q i).u)), .int .u64 (wv0 ((Q i).u))]) rfl (by kernel_rfl) .none h19 (fun _ s => dv_loadsR (l := [.int .u64 (wv3 ((Q i).x)), .int .u64 (wv2 ((Q i).x)), .int .u64 (wv1 ((Q i).x)), .int .u64 (wv0 ((Q i).x)), .int .u64 (wv3 ((Q i).y)), .int .u64 (wv2 ((Q i).y)), .int .u64 (wv1 ((Q i).y)), .int .u64 (wv0 ((Q i).y)), .int .u64 (wv3 ((Q i).u)), .int .u64 (wv2 ((Q i).u)), .int .u64 (wv1 ((Q i).u)), .int .u64 (wv0 ((Q i).u))]) agt40 sz40 (T rfl rfl) rfl (NR.pt (i := i) s (by first | omega | (simp; done) | (simp; omega)))) ?_
     refine aw_one 5 rfl (by kernel_rfl) .none (oe_callf (vs := [.agg #[.int .u64 (wv3 ((Q i).x)), .int .u64 (wv2 ((Q i).x)), .int .u64 (wv1 ((Q i).x)), .int .u64 (wv0 ((Q i).x)), .int .u64 (wv3 ((Q i).y)), .int .u64 (wv2 ((Q i).y)), .int .u64 (wv1 ((Q i).y)), .int .u64 (wv0 ((Q i).y)), .int .u64 (wv3 ((Q i).u)), .int .u64 (wv2 ((Q i).u)), .int .u64 (wv1 ((Q i).u)), .int .u64 (wv0 ((Q i).u))]]) co50 (ar1 (T rfl rfl)) (sPointOk_ok (x := (Q i).x) (y := (Q i).y) (u := (Q i).u) (evF.x hxf (i := i) (by omega)) (evF.y hxf (i := i) (by omega)) (evF.u hxf (i := i) (by omega)) ) ?_)
     rintro _ w22 ⟨rfl, e23⟩
     have E24 := below_ext E18 E18.size e23
     have h25 := (h19.ext e23)
     refine ⟨.inr h25, ?_⟩
     refine aw_pure 6 (.bool (decide (¬ (pOk ((Q i).x) ((Q i).y) ((Q i).u))))) rfl (by kernel_rfl) .none h25 (fun _ => dv_notd (p := pOk ((Q i).x) ((Q i).y) ((Q i).u)) (T rfl rfl)) ?_
     refine aw_pure 7 (.bool (decide (¬ (pOk ((Q i).x) ((Q i).y) ((Q i).u))))) rfl (by kernel_rfl) .none h25 (fun _ => dv_move (T rfl rfl)) ?_
     by_cases hb26 : pOk ((Q i).x) ((Q i).y) ((Q i).u)
     · refine aw_pure 8 (.slice (some ⟨g20, o21, none⟩) l c) rfl (by kernel_rfl) (.yes (d := 21) rfl rfl (congrArg Value.bool (decide_eq_false (not_not_intro hb26)))) h25 (fun _ => dv_move (T rfl f7)) ?_
       refine aw_pure 9 (.int .i64 ((i : Int))) rfl (by kernel_rfl) (.yes (d := 21) rfl rfl (congrArg Value.bool (decide_eq_false (not_not_intro hb26)))) h25 (fun _ => dv_move (T rfl f8)) ?_
       refine aw_pure 10 (.pointer (some ⟨g20, o21 + i * 13, none⟩)) rfl (by kernel_rfl) (.yes (d := 21) rfl rfl (congrArg Value.bool (decide_eq_false (not_not_intro hb26)))) h25 (fun _ => dv_indexM (g := g20) (o := o21) (l := l) (c := c) (i := i) (j := (i : Int)) (m := 13) us46 sz52 (T rfl rfl) (T rfl rfl) (by omega) (by first | omega | (simp; done) | (simp; omega))) ?_
       refine aw_pure 11 (.pointer (some ⟨g20, o21 + (i * 13 + 12), none⟩)) rfl (by kernel_rfl) (.yes (d := 21) rfl rfl (congrArg Value.bool (decide_eq_false (not_not_intro hb26)))) h25 (fun _ => dv_fieldW (g := g20) (o := o21) (i := i * 13) fo52_1 (T rfl rfl)) ?_
       refine aw_load 12 (.slice As11 ((Q i).es.length) cs12) rfl (by kernel_rfl) (.yes (d := 21) rfl rfl (congrArg Value.bool (decide_eq_false (not_not_intro hb26)))) h25 (fun _ s => dv_load agt50 (T rfl rfl) (NR.slA (i := i) s (by first | omega | (simp; done) | (simp; omega)) hAs13 hcs14)) ?_
       refine aw_pure 13 (.int .i64 (((Q i).es.length : Int))) rfl (by kernel_rfl) (.yes (d := 21) rfl rfl (congrArg Value.bool (decide_eq_false (not_not_intro hb26)))) h25 (fun _ => dv_len (ad := As11) (l := (Q i).es.length) (c := cs12) us50 (T rfl rfl)) ?_
       refine aw_pure 14 (.bool (decide ((((Q i).es.length : Int)) < 1))) rfl (by kernel_rfl) (.yes (d := 21) rfl rfl (congrArg Value.bool (decide_eq_false (not_not_intro hb26)))) h25 (fun _ => dv_lss (a := ((Q i).es.length : Int)) (b := 1) (T rfl rfl) C) ?_
       refine aw_pure 15 (.bool (decide ((((Q i).es.length : Int)) < 1))) rfl (by kernel_rfl) .none h25 (fun _ => dv_pick_f (T rfl (congrArg Value.bool (decide_eq_false (not_not_intro hb26)))) (T rfl rfl)) ?_
       refine aw_pure 16 (.bool (decide ((((Q i).es.length : Int)) < 1))) rfl (by kernel_rfl) .none h25 (fun _ => dv_move (T rfl rfl)) ?_
       by_cases hb27 : (((Q i).es.length : Int)) < 1
       · refine aw_no 17 rfl (by kernel_rfl) (d := 30) rfl rfl (congrArg Value.bool (decide_eq_true hb27)) h25 ?_
         refine aw_no 18 rfl (by kernel_rfl) (d := 30) rfl rfl (congrArg Value.bool (decide_eq_true hb27)) h25 ?_
         refine aw_no 19 rfl (by kernel_rfl) (d := 30) rfl rfl (congrArg Value.bool (decide_eq_true hb27)) h25 ?_
         refine aw_nou 20 rfl (by kernel_rfl) (d := 33) rfl rfl h25 ?_
         refine aw_nou 21 rfl (by kernel_rfl) (d := 33) rfl rfl h25 ?_
         refine aw_nou 22 rfl (by kernel_rfl) (d := 33) rfl rfl h25 ?_
         refine aw_nou 23 rfl (by kernel_rfl) (d := 33) rfl rfl h25 ?_
         refine aw_nou 24 rfl (by kernel_rfl) (d := 33) rfl rfl h25 ?_
         refine aw_nou 25 rfl (by kernel_rfl) (d := 33) rfl rfl h25 ?_
         refine aw_nou 26 rfl (by kernel_rfl) (d := 33) rfl rfl h25 ?_
         refine aw_nou 27 rfl (by kernel_rfl) (d := 33) rfl rfl h25 ?_
         refine aw_nou 28 rfl (by kernel_rfl) (d := 33) rfl rfl h25 ?_
         refine aw_nou 29 rfl (by kernel_rfl) (d := 33) rfl rfl h25 ?_
         refine aw_nou 30 rfl (by kernel_rfl) (d := 33) rfl rfl h25 ?_
         refine aw_nou 31 rfl (by kernel_rfl) (d := 33) rfl rfl h25 ?_
         refine aw_nou 32 rfl (by kernel_rfl) (d := 33) rfl rfl h25 ?_
         refine aw_nou 33 rfl (by kernel_rfl) (d := 33) rfl rfl h25 ?_
         refine aw_nou 34 rfl (by kernel_rfl) (d := 33) rfl rfl h25 ?_
         refine aw_no 35 rfl (by kernel_rfl) (d := 30) rfl rfl (congrArg Value.bool (decide_eq_true hb27)) h25 ?_
         refine aw_pure 36 (.bool true) rfl (by kernel_rfl) .none h25 (fun _ => dv_pick_t (T rfl (congrArg Value.bool (decide_eq_true hb27))) C) ?_
         refine aw_done (by kernel_rfl) ?_
         refine rk_ct (T rfl rfl) ?_
         refine rk_seq ?_
         refine rk_reg ?_
         refine lw_v (.bool false) (dv_assign C) ?_
         refine lw_nil ?_
         refine rk_ret Try.func16 (v := .bool false) (res1 Try.results16 (rv_tmp rfl rfl)) ⟨_, rfl, ?_⟩
         exact ⟨(vf (fun hh_ => by have hh := hh_.2 i (by omega); first | exact absurd hh.1 (by assumption) | exact absurd hh.2.2.1 (by assumption) | (have h2_ := hh.2.1; omega) | (have h2_ := hh.2.2.2 (by omega); omega))), E24⟩
       · refine aw_pure 17 (.int .i64 ((i : Int))) rfl (by kernel_rfl) (.yes (d := 30) rfl rfl (congrArg Value.bool (decide_eq_false hb27))) h25 (fun _ => dv_move (T rfl f8)) ?_
         refine aw_pure 18 (.bool (decide (0 < ((i : Int))))) rfl (by kernel_rfl) (.yes (d := 30) rfl rfl (congrArg Value.bool (decide_eq_false hb27))) h25 (fun _ => dv_gtr (a := (i : Int)) (b := 0) (T rfl rfl) C) ?_
         refine aw_pure 19 (.bool (decide (0 < ((i : Int))))) rfl (by kernel_rfl) (.yes (d := 30) rfl rfl (congrArg Value.bool (decide_eq_false hb27))) h25 (fun _ => dv_move (T rfl rfl)) ?_
         by_cases hb28 : 0 < ((i : Int))
         · refine aw_pure 20 (.slice (some ⟨g20, o21, none⟩) l c) rfl (by kernel_rfl) (.yes (d := 33) rfl rfl (congrArg Value.bool (decide_eq_true hb28))) h25 (fun _ => dv_move (T rfl f7)) ?_
           refine aw_pure 21 (.int .i64 ((i : Int))) rfl (by kernel_rfl) (.yes (d := 33) rfl rfl (congrArg Value.bool (decide_eq_true hb28))) h25 (fun _ => dv_move (T rfl f8)) ?_
           refine aw_pure 22 (.int .i64 (((i : Int)) - 1)) rfl (by kernel_rfl) (.yes (d := 33) rfl rfl (congrArg Value.bool (decide_eq_true hb28))) h25 (fun _ => dv_sub (a := (i : Int)) (b := 1) (z := ((i : Int)) - 1) (T rfl rfl) C (wr_i64 (by omega) (by omega))) ?_
           refine aw_pure 23 (.pointer (some ⟨g20, o21 + (((i) - 1)) * 13, none⟩)) rfl (by kernel_rfl) (.yes (d := 33) rfl rfl (congrArg Value.bool (decide_eq_true hb28))) h25 (fun _ => dv_indexM (g := g20) (o := o21) (l := l) (c := c) (i := ((i) - 1)) (j := ((i : Int)) - 1) (m := 13) us46 sz52 (T rfl rfl) (T rfl rfl) (by omega) (by first | omega | (simp; done) | (simp; omega))) ?_
           refine aw_pure 24 (.pointer (some ⟨g20, o21 + ((((i) - 1)) * 13), none⟩)) rfl (by kernel_rfl) (.yes (d := 33) rfl rfl (congrArg Value.bool (decide_eq_true hb28))) h25 (fun _ => dv_fieldW (g := g20) (o := o21) (i := (((i) - 1)) * 13) fo52_0 (T rfl rfl)) ?_
           refine aw_load 25 (.agg #[.int .u64 (wv3 ((Q ((i) - 1)).x)), .int .u64 (wv2 ((Q ((i) - 1)).x)), .int .u64 (wv1 ((Q ((i) - 1)).x)), .int .u64 (wv0 ((Q ((i) - 1)).x)), .int .u64 (wv3 ((Q ((i) - 1)).y)), .int .u64 (wv2 ((Q ((i) - 1)).y)), .int .u64 (wv1 ((Q ((i) - 1)).y)), .int .u64 (wv0 ((Q ((i) - 1)).y)), .int .u64 (wv3 ((Q ((i) - 1)).u)), .int .u64 (wv2 ((Q ((i) - 1)).u)), .int .u64 (wv1 ((Q ((i) - 1)).u)), .int .u64 (wv0 ((Q ((i) - 1)).u))]) rfl (by kernel_rfl) (.yes (d := 33) rfl rfl (congrArg Value.bool (decide_eq_true hb28))) h25 (fun _ s => dv_loadsR (l := [.int .u64 (wv3 ((Q ((i) - 1)).x)), .int .u64 (wv2 ((Q ((i) - 1)).x)), .int .u64 (wv1 ((Q ((i) - 1)).x)), .int .u64 (wv0 ((Q ((i) - 1)).x)), .int .u64 (wv3 ((Q ((i) - 1)).y)), .int .u64 (wv2 ((Q ((i) - 1)).y)), .int .u64 (wv1 ((Q ((i) - 1)).y)), .int .u64 (wv0 ((Q ((i) - 1)).y)), .int .u64 (wv3 ((Q ((i) - 1)).u)), .int .u64 (wv2 ((Q ((i) - 1)).u)), .int .u64 (wv1 ((Q ((i) - 1)).u)), .int .u64 (wv0 ((Q ((i) - 1)).u))]) agt40 sz40 (T rfl rfl) rfl (NR.pt (i := (i) - 1) s (by first | omega | (simp; done) | (simp; omega)))) ?_
           refine aw_pure 27 (.slice (some ⟨g20, o21, none⟩) l c) rfl (by kernel_rfl) (.yes (d := 33) rfl rfl (congrArg Value.bool (decide_eq_true hb28))) h25 (fun _ => dv_move (T rfl f7)) ?_
           refine aw_pure 28 (.int .i64 ((i : Int))) rfl (by kernel_rfl) (.yes (d := 33) rfl rfl (congrArg Value.bool (decide_eq_true hb28))) h25 (fun _ => dv_move (T rfl f8)) ?_
           refine aw_pure 29 (.pointer (some ⟨g20, o21 + i * 13, none⟩)) rfl (by kernel_rfl) (.yes (d := 33) rfl rfl (congrArg Value.bool (decide_eq_true hb28))) h25 (fun _ => dv_indexM (g := g20) (o := o21) (l := l) (c := c) (i := i) (j := (i : Int)) (m := 13) us46 sz52 (T rfl rfl) (T rfl rfl) (by omega) (by first | omega | (simp; done) | (simp; omega))) ?_
           refine aw_pure 30 (.pointer (some ⟨g20, o21 + (i * 13), none⟩)) rfl (by kernel_rfl) (.yes (d := 33) rfl rfl (congrArg Value.bool (decide_eq_true hb28))) h25 (fun _ => dv_fieldW (g := g20) (o := o21) (i := i * 13) fo52_0 (T rfl rfl)) ?_
           refine aw_load 31 (.agg #[.int .u64 (wv3 ((Q i).x)), .int .u64 (wv2 ((Q i).x)), .int .u64 (wv1 ((Q i).x)), .int .u64 (wv0 ((Q i).x)), .int .u64 (wv3 ((Q i).y)), .int .u64 (wv2 ((Q i).y)), .int .u64 (wv1 ((Q i).y)), .int .u64 (wv0 ((Q i).y)), .int .u64 (wv3 ((Q i).u)), .int .u64 (wv2 ((Q i).u)), .int .u64 (wv1 ((Q i).u)), .int .u64 (wv0 ((Q i).u))]) rfl (by kernel_rfl) (.yes (d := 33) rfl rfl (congrArg Value.bool (decide_eq_true hb28))) h25 (fun _ s => dv_loadsR (l := [.int .u64 (wv3 ((Q i).x)), .int .u64 (wv2 ((Q i).x)), .int .u64 (wv1 ((Q i).x)), .int .u64 (wv0 ((Q i).x)), .int .u64 (wv3 ((Q i).y)), .int .u64 (wv2 ((Q i).y)), .int .u64 (wv1 ((Q i).y)), .int .u64 (wv0 ((Q i).y)), .int .u64 (wv3 ((Q i).u)), .int .u64 (wv2 ((Q i).u)), .int .u64 (wv1 ((Q i).u)), .int .u64 (wv0 ((Q i).u))]) agt40 sz40 (T rfl rfl) rfl (NR.pt (i := i) s (by first | omega | (simp; done) | (simp; omega)))) ?_
           refine aw_one 26 rfl (by kernel_rfl) (.yes (d := 33) rfl rfl (congrArg Value.bool (decide_eq_true hb28))) (oe_callf (vs := [.agg #[.int .u64 (wv3 ((Q ((i) - 1)).x)), .int .u64 (wv2 ((Q ((i) - 1)).x)), .int .u64 (wv1 ((Q ((i) - 1)).x)), .int .u64 (wv0 ((Q ((i) - 1)).x)), .int .u64 (wv3 ((Q ((i) - 1)).y)), .int .u64 (wv2 ((Q ((i) - 1)).y)), .int .u64 (wv1 ((Q ((i) - 1)).y)), .int .u64 (wv0 ((Q ((i) - 1)).y)), .int .u64 (wv3 ((Q ((i) - 1)).u)), .int .u64 (wv2 ((Q ((i) - 1)).u)), .int .u64 (wv1 ((Q ((i) - 1)).u)), .int .u64 (wv0 ((Q ((i) - 1)).u))]]) co52 (ar1 (T rfl rfl)) (l3Of_ok (evF.x hxf (i := ((i) - 1)) (by omega)) (evF.y hxf (i := ((i) - 1)) (by omega)) (evF.u hxf (i := ((i) - 1)) (by omega))  ) ?_)
           rintro _ w44 ⟨nr29, A30, n31, c32, nr33, A34, n35, c36, nr37, A38, n39, c40, rfl, e45, h41, h42, h43⟩
           have E46 := below_ext E24 E24.size e45
           have lh41 := Num.len (by decide) h41
           have lh42 := Num.len (by decide) h42
           have lh43 := Num.len (by decide) h43
           have h47 := (h25.ext e45)
           refine ⟨.inr h47, ?_⟩
           refine aw_one 32 rfl (by kernel_rfl) (.yes (d := 33) rfl rfl (congrArg Value.bool (decide_eq_true hb28))) (oe_callf (vs := [.agg #[.int .u64 (wv3 ((Q i).x)), .int .u64 (wv2 ((Q i).x)), .int .u64 (wv1 ((Q i).x)), .int .u64 (wv0 ((Q i).x)), .int .u64 (wv3 ((Q i).y)), .int .u64 (wv2 ((Q i).y)), .int .u64 (wv1 ((Q i).y)), .int .u64 (wv0 ((Q i).y)), .int .u64 (wv3 ((Q i).u)), .int .u64 (wv2 ((Q i).u)), .int .u64 (wv1 ((Q i).u)), .int .u64 (wv0 ((Q i).u))]]) co52 (ar1 (T rfl rfl)) (l3Of_ok (evF.x hxf (i := i) (by omega)) (evF.y hxf (i := i) (by omega)) (evF.u hxf (i := i) (by omega))  ) ?_)
           rintro _ w63 ⟨nr48, A49, n50, c51, nr52, A53, n54, c55, nr56, A57, n58, c59, rfl, e64, h60, h61, h62⟩
           have E65 := below_ext E46 E46.size e64
           have lh60 := Num.len (by decide) h60
           have lh61 := Num.len (by decide) h61
           have lh62 := Num.len (by decide) h62
           have h66 := (h47.ext e64)
           refine ⟨.inr h66, ?_⟩
           have h67 := (h41.ext e64)
           have h68 := (h42.ext e64)
           have h69 := (h43.ext e64)
           refine aw_one 33 rfl (by kernel_rfl) (.yes (d := 33) rfl rfl (congrArg Value.bool (decide_eq_true hb28))) (oe_callf (vs := [.agg #[.bool nr29, .slice A30 n31 c32, .bool nr33, .slice A34 n35 c36, .bool nr37, .slice A38 n39 c40], .agg #[.bool nr48, .slice A49 n50 c51, .bool nr52, .slice A53 n54 c55, .bool nr56, .slice A57 n58 c59]]) co51 (ar2 (T rfl rfl) (T rfl rfl)) (l3Cmp_ok h67 h68 h69 h60 h61 h62 (by first | decide | omega) (by first | decide | omega) (by first | decide | omega) (by first | decide | omega) (by first | decide | omega) (by first | decide | omega) ) ?_)
           rintro _ w70 ⟨rfl, e71⟩
           have E72 := below_ext E65 E65.size e71
           have h73 := (h66.ext e71)
           refine ⟨.inr h73, ?_⟩
           refine aw_pure 34 (.bool (decide (0 ≤ (pc (((Q ((i) - 1)).x)) (((Q ((i) - 1)).y)) (((Q ((i) - 1)).u)) (((Q i).x)) (((Q i).y)) (((Q i).u)))))) rfl (by kernel_rfl) (.yes (d := 33) rfl rfl (congrArg Value.bool (decide_eq_true hb28))) h73 (fun _ => dv_geq (a := pc (((Q ((i) - 1)).x)) (((Q ((i) - 1)).y)) (((Q ((i) - 1)).u)) (((Q i).x)) (((Q i).y)) (((Q i).u))) (b := 0) (T rfl rfl) C) ?_
           refine aw_pure 35 (.bool (decide (0 ≤ (pc (((Q ((i) - 1)).x)) (((Q ((i) - 1)).y)) (((Q ((i) - 1)).u)) (((Q i).x)) (((Q i).y)) (((Q i).u)))))) rfl (by kernel_rfl) (.yes (d := 30) rfl rfl (congrArg Value.bool (decide_eq_false hb27))) h73 (fun _ => dv_pick_t (T rfl (congrArg Value.bool (decide_eq_true hb28))) (T rfl rfl)) ?_
           refine aw_pure 36 (.bool (decide (0 ≤ (pc (((Q ((i) - 1)).x)) (((Q ((i) - 1)).y)) (((Q ((i) - 1)).u)) (((Q i).x)) (((Q i).y)) (((Q i).u)))))) rfl (by kernel_rfl) .none h73 (fun _ => dv_pick_f (T rfl (congrArg Value.bool (decide_eq_false hb27))) (T rfl rfl)) ?_
           refine aw_done (by kernel_rfl) ?_
           by_cases hb74 : 0 ≤ (pc (((Q ((i) - 1)).x)) (((Q ((i) - 1)).y)) (((Q ((i) - 1)).u)) (((Q i).x)) (((Q i).y)) (((Q i).u)))
           · refine rk_ct (T rfl (congrArg Value.bool (decide_eq_true hb74))) ?_
             refine rk_seq ?_
             refine rk_reg ?_
             refine lw_v (.bool false) (dv_assign C) ?_
             refine lw_nil ?_
             refine rk_ret Try.func16 (v := .bool false) (res1 Try.results16 (rv_tmp rfl rfl)) ⟨_, rfl, ?_⟩
             exact ⟨(vf (fun hh_ => by have hh := hh_.2 i (by omega); first | exact absurd hh.1 (by assumption) | exact absurd hh.2.2.1 (by assumption) | (have h2_ := hh.2.1; omega) | (have h2_ := hh.2.2.2 (by omega); omega))), E72⟩
           · refine rk_cf (T rfl (congrArg Value.bool (decide_eq_false hb74))) ?_
             refine rk_skip ?_
             refine rk_seq ?_
             refine rk_reg ?_
             refine lw_v (.int .i64 0) (dv_assign C) ?_
             refine lw_nil ?_
             refine rk_block ?_
             refine rk_loop (fun dm_ fr wl => ∃ (k : Nat), dm_ = (Q i).es.length - k ∧ fr 0 = .slice (some ⟨g20, o21, none⟩) l c ∧ fr 3 = .int .i64 ((i : Int)) ∧ fr 4 = .int .i64 ((k : Int)) ∧ fr 8 = .int .i64 ((i : Int)) ∧ fr 9 = .slice (some ⟨g20, o21, none⟩) l c ∧ fr 10 = .int .i64 ((l : Int)) ∧ fr 11 = .bool (decide (((i : Int)) < ((l : Int)))) ∧ fr 14 = .slice (some ⟨g20, o21, none⟩) l c ∧ fr 15 = .int .i64 ((i : Int)) ∧ fr 16 = .pointer (some ⟨g20, o21 + i * 13, none⟩) ∧ fr 17 = .pointer (some ⟨g20, o21 + (i * 13), none⟩) ∧ fr 18 = .agg #[.int .u64 (wv3 ((Q i).x)), .int .u64 (wv2 ((Q i).x)), .int .u64 (wv1 ((Q i).x)), .int .u64 (wv0 ((Q i).x)), .int .u64 (wv3 ((Q i).y)), .int .u64 (wv2 ((Q i).y)), .int .u64 (wv1 ((Q i).y)), .int .u64 (wv0 ((Q i).y)), .int .u64 (wv3 ((Q i).u)), .int .u64 (wv2 ((Q i).u)), .int .u64 (wv1 ((Q i).u)), .int .u64 (wv0 ((Q i).u))] ∧ fr 19 = .bool (decide (pOk ((Q i).x) ((Q i).y) ((Q i).u))) ∧ fr 20 = .bool (decide (¬ (pOk ((Q i).x) ((Q i).y) ((Q i).u)))) ∧ fr 21 = .bool (decide (¬ (pOk ((Q i).x) ((Q i).y) ((Q i).u)))) ∧ fr 22 = .slice (some ⟨g20, o21, none⟩) l c ∧ fr 23 = .int .i64 ((i : Int)) ∧ fr 24 = .pointer (some ⟨g20, o21 + i * 13, none⟩) ∧ fr 25 = .pointer (some ⟨g20, o21 + (i * 13 + 12), none⟩) ∧ fr 26 = .slice As11 ((Q i).es.length) cs12 ∧ fr 27 = .int .i64 (((Q i).es.length : Int)) ∧ fr 28 = .bool (decide ((((Q i).es.length : Int)) < 1)) ∧ fr 29 = .bool (decide ((((Q i).es.length : Int)) < 1)) ∧ fr 30 = .bool (decide ((((Q i).es.length : Int)) < 1)) ∧ fr 31 = .int .i64 ((i : Int)) ∧ fr 32 = .bool (decide (0 < ((i : Int)))) ∧ fr 33 = .bool (decide (0 < ((i : Int)))) ∧ fr 34 = .slice (some ⟨g20, o21, none⟩) l c ∧ fr 35 = .int .i64 ((i : Int)) ∧ fr 36 = .int .i64 (((i : Int)) - 1) ∧ fr 37 = .pointer (some ⟨g20, o21 + (((i) - 1)) * 13, none⟩) ∧ fr 38 = .pointer (some ⟨g20, o21 + ((((i) - 1)) * 13), none⟩) ∧ fr 39 = .agg #[.int .u64 (wv3 ((Q ((i) - 1)).x)), .int .u64 (wv2 ((Q ((i) - 1)).x)), .int .u64 (wv1 ((Q ((i) - 1)).x)), .int .u64 (wv0 ((Q ((i) - 1)).x)), .int .u64 (wv3 ((Q ((i) - 1)).y)), .int .u64 (wv2 ((Q ((i) - 1)).y)), .int .u64 (wv1 ((Q ((i) - 1)).y)), .int .u64 (wv0 ((Q ((i) - 1)).y)), .int .u64 (wv3 ((Q ((i) - 1)).u)), .int .u64 (wv2 ((Q ((i) - 1)).u)), .int .u64 (wv1 ((Q ((i) - 1)).u)), .int .u64 (wv0 ((Q ((i) - 1)).u))] ∧ fr 40 = .agg #[.bool nr29, .slice A30 n31 c32, .bool nr33, .slice A34 n35 c36, .bool nr37, .slice A38 n39 c40] ∧ fr 41 = .slice (some ⟨g20, o21, none⟩) l c ∧ fr 42 = .int .i64 ((i : Int)) ∧ fr 43 = .pointer (some ⟨g20, o21 + i * 13, none⟩) ∧ fr 44 = .pointer (some ⟨g20, o21 + (i * 13), none⟩) ∧ fr 45 = .agg #[.int .u64 (wv3 ((Q i).x)), .int .u64 (wv2 ((Q i).x)), .int .u64 (wv1 ((Q i).x)), .int .u64 (wv0 ((Q i).x)), .int .u64 (wv3 ((Q i).y)), .int .u64 (wv2 ((Q i).y)), .int .u64 (wv1 ((Q i).y)), .int .u64 (wv0 ((Q i).y)), .int .u64 (wv3 ((Q i).u)), .int .u64 (wv2 ((Q i).u)), .int .u64 (wv1 ((Q i).u)), .int .u64 (wv0 ((Q i).u))] ∧ fr 46 = .agg #[.bool nr48, .slice A49 n50 c51, .bool nr52, .slice A53 n54 c55, .bool nr56, .slice A57 n58 c59] ∧ fr 47 = .int .i64 (pc (((Q ((i) - 1)).x)) (((Q ((i) - 1)).y)) (((Q ((i) - 1)).u)) (((Q i).x)) (((Q i).y)) (((Q i).u))) ∧ fr 48 = .bool (decide (0 ≤ (pc (((Q ((i) - 1)).x)) (((Q ((i) - 1)).y)) (((Q ((i) - 1)).u)) (((Q i).x)) (((Q i).y)) (((Q i).u))))) ∧ fr 49 = .bool (decide (0 ≤ (pc (((Q ((i) - 1)).x)) (((Q ((i) - 1)).y)) (((Q ((i) - 1)).u)) (((Q i).x)) (((Q i).y)) (((Q i).u))))) ∧ fr 50 = .bool (decide (0 ≤ (pc (((Q ((i) - 1)).x)) (((Q ((i) - 1)).y)) (((Q ((i) - 1)).u)) (((Q i).x)) (((Q i).y)) (((Q i).u))))) ∧ Below w.heap.size w wl ∧ (k ≤ (Q i).es.length) ∧ (∀ q, q < k → riseAt (Q i).es q)) ((Q i).es.length - 0) ⟨0, rfl, f7, f8, (vi (by omega)), rfl, rfl, rfl, rfl, rfl, rfl, rfl, rfl, rfl, rfl, rfl, rfl, rfl, rfl, rfl, rfl, rfl, rfl, rfl, rfl, rfl, rfl, rfl, rfl, rfl, rfl, rfl, rfl, rfl, rfl, rfl, rfl, rfl, rfl, rfl, rfl, rfl, rfl, rfl, rfl, rfl, E72, (Nat.zero_le _), (fun q hq => absurd hq (by omega))⟩ ?_
             intro d79 fr78 w75 hI76 ih77
             obtain ⟨k, hd125, f80, f81, f82, f83, f84, f85, f86, f87, f88, f89, f90, f91, f92, f93, f94, f95, f96, f97, f98, f99, f100, f101, f102, f103, f104, f105, f106, f107, f108, f109, f110, f111, f112, f113, f114, f115, f116, f117, f118, f119, f120, f121, f122, f123, E124, hk_, hin⟩ := hI76
             refine rk_seq ?_
             refine rk_seq ?_
             refine rk_reg ?_
             refine lw_v (.int .i64 ((k : Int))) (dv_move (T rfl f82)) ?_
             refine lw_v (.slice (some ⟨g20, o21, none⟩) l c) (dv_move (T rfl f80)) ?_
             refine lw_v (.int .i64 ((i : Int))) (dv_move (T rfl f81)) ?_
             refine lw_v (.pointer (some ⟨g20, o21 + i * 13, none⟩)) (dv_indexM (g := g20) (o := o21) (l := l) (c := c) (i := i) (j := (i : Int)) (m := 13) us46 sz52 (T rfl rfl) (T rfl rfl) (by omega) (by first | omega | (simp; done) | (simp; omega))) ?_
             refine lw_v (.pointer (some ⟨g20, o21 + (i * 13 + 12), none⟩)) (dv_fieldW (g := g20) (o := o21) (i := i * 13) fo52_1 (T rfl rfl)) ?_
             have h126 := (hx.ext E124)
             refine lw_v (.slice As11 ((Q i).es.length) cs12) (dv_load agt50 (T rfl rfl) (NR.slA (i := i) h126 (by first | omega | (simp; done) | (simp; omega)) hAs13 hcs14)) ?_
             refine lw_v (.int .i64 (((Q i).es.length : Int))) (dv_len (ad := As11) (l := (Q i).es.length) (c := cs12) us50 (T rfl rfl)) ?_
             refine lw_v (.bool (decide (((k : Int)) < (((Q i).es.length : Int))))) (dv_lss (a := (k : Int)) (b := ((Q i).es.length : Int)) (T rfl rfl) (T rfl rfl)) ?_
             refine lw_nil ?_
             by_cases hb127 : ((k : Int)) < (((Q i).es.length : Int))
             · refine rk_ct (T rfl (congrArg Value.bool (decide_eq_true hb127))) ?_
               refine rk_skip ?_
               refine rk_seq ?_
               refine rk_block ?_
               refine rk_seq ?_
               refine rk_any (fun w => NR w lo hi (some ⟨g20, o21, none⟩) l (fun i_ => evW (Q i_)) (fun i_ => (Q i_).es) SL ∧ RdI w .i64 As11 ((Q i).es)) [] mo ?_
               intro w128 d129
               have E130 := below_ext E124 E124.size d129.ext
               have h131 := (h126.ext d129.ext)
               refine aw_pure 0 (.slice (some ⟨g20, o21, none⟩) l c) rfl (by kernel_rfl) .none ⟨h131, (NR.rdA (i := i) h131 (by first | omega | (simp; done) | (simp; omega)) hAs13)⟩ (fun _ => dv_move (T rfl f80)) ?_
               refine aw_pure 1 (.int .i64 ((i : Int))) rfl (by kernel_rfl) .none ⟨h131, (NR.rdA (i := i) h131 (by first | omega | (simp; done) | (simp; omega)) hAs13)⟩ (fun _ => dv_move (T rfl f81)) ?_
               refine aw_pure 2 (.pointer (some ⟨g20, o21 + i * 13, none⟩)) rfl (by kernel_rfl) .none ⟨h131, (NR.rdA (i := i) h131 (by first | omega | (simp; done) | (simp; omega)) hAs13)⟩ (fun _ => dv_indexM (g := g20) (o := o21) (l := l) (c := c) (i := i) (j := (i : Int)) (m := 13) us46 sz52 (T rfl rfl) (T rfl rfl) (by omega) (by first | omega | (simp; done) | (simp; omega))) ?_
               refine aw_pure 3 (.pointer (some ⟨g20, o21 + (i * 13 + 12), none⟩)) rfl (by kernel_rfl) .none ⟨h131, (NR.rdA (i := i) h131 (by first | omega | (simp; done) | (simp; omega)) hAs13)⟩ (fun _ => dv_fieldW (g := g20) (o := o21) (i := i * 13) fo52_1 (T rfl rfl)) ?_
               refine aw_load 4 (.slice As11 ((Q i).es.length) cs12) rfl (by kernel_rfl) .none ⟨h131, (NR.rdA (i := i) h131 (by first | omega | (simp; done) | (simp; omega)) hAs13)⟩ (fun _ s => dv_load agt50 (T rfl rfl) (NR.slA (i := i) s.1 (by first | omega | (simp; done) | (simp; omega)) hAs13 hcs14)) ?_
               refine aw_pure 5 (.int .i64 ((k : Int))) rfl (by kernel_rfl) .none ⟨h131, (NR.rdA (i := i) h131 (by first | omega | (simp; done) | (simp; omega)) hAs13)⟩ (fun _ => dv_move (T rfl f82)) ?_
               obtain ⟨g132, o133, rfl⟩ := RdI.at (NR.rdA (i := i) h131 (by first | omega | (simp; done) | (simp; omega)) hAs13) (by first | omega | (simp; done) | (simp; omega))
               refine aw_pure 6 (.pointer (some ⟨g132, o133 + k, none⟩)) rfl (by kernel_rfl) .none ⟨h131, (NR.rdA (i := i) h131 (by first | omega | (simp; done) | (simp; omega)) hAs13)⟩ (fun _ => dv_indexW (g := g132) (o := o133) (l := (Q i).es.length) (c := cs12) (i := k) (j := (k : Int)) us50 sz2 (T rfl rfl) (T rfl rfl) (by omega) (by first | omega | (simp; done) | (simp; omega))) ?_
               refine aw_load 7 (.int .i64 (((Q i).es).getD k 0)) rfl (by kernel_rfl) .none ⟨h131, (NR.rdA (i := i) h131 (by first | omega | (simp; done) | (simp; omega)) hAs13)⟩ (fun _ s => dv_load agt2 (T rfl rfl) (RdI.cell s.2 (by first | omega | (simp; done) | (simp; omega)))) ?_
               refine aw_one 8 rfl (by kernel_rfl) .none (oe_callf (vs := [.int .i64 (((Q i).es).getD k 0), .int .i64 0, .int .i64 39]) co53 (ar3 (T rfl rfl) C C) (l1In_ok (n := ((Q i).es).getD k 0) (lo := 0) (hi := 39)  ) ?_)
               rintro _ w134 ⟨rfl, e135⟩
               have E136 := below_ext E130 E130.size e135
               have h137 := (h131.ext e135)
               refine ⟨.inr ⟨h137, (NR.rdA (i := i) h137 (by first | omega | (simp; done) | (simp; omega)) hAs13)⟩, ?_⟩
               refine aw_pure 9 (.bool (decide (¬ ((0 : Int) ≤ (((Q i).es).getD k 0) ∧ (((Q i).es).getD k 0) ≤ (39 : Int))))) rfl (by kernel_rfl) .none ⟨h137, (NR.rdA (i := i) h137 (by first | omega | (simp; done) | (simp; omega)) hAs13)⟩ (fun _ => dv_notd (p := (0 : Int) ≤ (((Q i).es).getD k 0) ∧ (((Q i).es).getD k 0) ≤ (39 : Int)) (T rfl rfl)) ?_
               refine aw_pure 10 (.bool (decide (¬ ((0 : Int) ≤ (((Q i).es).getD k 0) ∧ (((Q i).es).getD k 0) ≤ (39 : Int))))) rfl (by kernel_rfl) .none ⟨h137, (NR.rdA (i := i) h137 (by first | omega | (simp; done) | (simp; omega)) hAs13)⟩ (fun _ => dv_move (T rfl rfl)) ?_
               by_cases hb138 : (0 : Int) ≤ (((Q i).es).getD k 0) ∧ (((Q i).es).getD k 0) ≤ (39 : Int)
               · refine aw_pure 11 (.int .i64 ((k : Int))) rfl (by kernel_rfl) (.yes (d := 71) rfl rfl (congrArg Value.bool (decide_eq_false (not_not_intro hb138)))) ⟨h137, (NR.rdA (i := i) h137 (by first | omega | (simp; done) | (simp; omega)) hAs13)⟩ (fun _ => dv_move (T rfl f82)) ?_
                 refine aw_pure 12 (.bool (decide (0 < ((k : Int))))) rfl (by kernel_rfl) (.yes (d := 71) rfl rfl (congrArg Value.bool (decide_eq_false (not_not_intro hb138)))) ⟨h137, (NR.rdA (i := i) h137 (by first | omega | (simp; done) | (simp; omega)) hAs13)⟩ (fun _ => dv_gtr (a := (k : Int)) (b := 0) (T rfl rfl) C) ?_
                 refine aw_pure 13 (.bool (decide (0 < ((k : Int))))) rfl (by kernel_rfl) (.yes (d := 71) rfl rfl (congrArg Value.bool (decide_eq_false (not_not_intro hb138)))) ⟨h137, (NR.rdA (i := i) h137 (by first | omega | (simp; done) | (simp; omega)) hAs13)⟩ (fun _ => dv_move (T rfl rfl)) ?_
                 by_cases hb139 : 0 < ((k : Int))
                 · refine aw_pure 14 (.slice (some ⟨g20, o21, none⟩) l c) rfl (by kernel_rfl) (.yes (d := 74) rfl rfl (congrArg Value.bool (decide_eq_true hb139))) ⟨h137, (NR.rdA (i := i) h137 (by first | omega | (simp; done) | (simp; omega)) hAs13)⟩ (fun _ => dv_move (T rfl f80)) ?_
                   refine aw_pure 15 (.int .i64 ((i : Int))) rfl (by kernel_rfl) (.yes (d := 74) rfl rfl (congrArg Value.bool (decide_eq_true hb139))) ⟨h137, (NR.rdA (i := i) h137 (by first | omega | (simp; done) | (simp; omega)) hAs13)⟩ (fun _ => dv_move (T rfl f81)) ?_
                   refine aw_pure 16 (.pointer (some ⟨g20, o21 + i * 13, none⟩)) rfl (by kernel_rfl) (.yes (d := 74) rfl rfl (congrArg Value.bool (decide_eq_true hb139))) ⟨h137, (NR.rdA (i := i) h137 (by first | omega | (simp; done) | (simp; omega)) hAs13)⟩ (fun _ => dv_indexM (g := g20) (o := o21) (l := l) (c := c) (i := i) (j := (i : Int)) (m := 13) us46 sz52 (T rfl rfl) (T rfl rfl) (by omega) (by first | omega | (simp; done) | (simp; omega))) ?_
                   refine aw_pure 17 (.pointer (some ⟨g20, o21 + (i * 13 + 12), none⟩)) rfl (by kernel_rfl) (.yes (d := 74) rfl rfl (congrArg Value.bool (decide_eq_true hb139))) ⟨h137, (NR.rdA (i := i) h137 (by first | omega | (simp; done) | (simp; omega)) hAs13)⟩ (fun _ => dv_fieldW (g := g20) (o := o21) (i := i * 13) fo52_1 (T rfl rfl)) ?_
                   refine aw_load 18 (.slice (some ⟨g132, o133, none⟩) ((Q i).es.length) cs12) rfl (by kernel_rfl) (.yes (d := 74) rfl rfl (congrArg Value.bool (decide_eq_true hb139))) ⟨h137, (NR.rdA (i := i) h137 (by first | omega | (simp; done) | (simp; omega)) hAs13)⟩ (fun _ s => dv_load agt50 (T rfl rfl) (NR.slA (i := i) s.1 (by first | omega | (simp; done) | (simp; omega)) hAs13 hcs14)) ?_
                   refine aw_pure 19 (.int .i64 ((k : Int))) rfl (by kernel_rfl) (.yes (d := 74) rfl rfl (congrArg Value.bool (decide_eq_true hb139))) ⟨h137, (NR.rdA (i := i) h137 (by first | omega | (simp; done) | (simp; omega)) hAs13)⟩ (fun _ => dv_move (T rfl f82)) ?_
                   refine aw_pure 20 (.int .i64 (((k : Int)) - 1)) rfl (by kernel_rfl) (.yes (d := 74) rfl rfl (congrArg Value.bool (decide_eq_true hb139))) ⟨h137, (NR.rdA (i := i) h137 (by first | omega | (simp; done) | (simp; omega)) hAs13)⟩ (fun _ => dv_sub (a := (k : Int)) (b := 1) (z := ((k : Int)) - 1) (T rfl rfl) C (wr_i64 (by omega) (by omega))) ?_
                   refine aw_pure 21 (.pointer (some ⟨g132, o133 + ((k) - 1), none⟩)) rfl (by kernel_rfl) (.yes (d := 74) rfl rfl (congrArg Value.bool (decide_eq_true hb139))) ⟨h137, (NR.rdA (i := i) h137 (by first | omega | (simp; done) | (simp; omega)) hAs13)⟩ (fun _ => dv_indexW (g := g132) (o := o133) (l := (Q i).es.length) (c := cs12) (i := ((k) - 1)) (j := ((k : Int)) - 1) us50 sz2 (T rfl rfl) (T rfl rfl) (by omega) (by first | omega | (simp; done) | (simp; omega))) ?_
                   refine aw_load 22 (.int .i64 (((Q i).es).getD (((k) - 1)) 0)) rfl (by kernel_rfl) (.yes (d := 74) rfl rfl (congrArg Value.bool (decide_eq_true hb139))) ⟨h137, (NR.rdA (i := i) h137 (by first | omega | (simp; done) | (simp; omega)) hAs13)⟩ (fun _ s => dv_load agt2 (T rfl rfl) (RdI.cell s.2 (by first | omega | (simp; done) | (simp; omega)))) ?_
                   refine aw_pure 23 (.slice (some ⟨g20, o21, none⟩) l c) rfl (by kernel_rfl) (.yes (d := 74) rfl rfl (congrArg Value.bool (decide_eq_true hb139))) ⟨h137, (NR.rdA (i := i) h137 (by first | omega | (simp; done) | (simp; omega)) hAs13)⟩ (fun _ => dv_move (T rfl f80)) ?_
                   refine aw_pure 24 (.int .i64 ((i : Int))) rfl (by kernel_rfl) (.yes (d := 74) rfl rfl (congrArg Value.bool (decide_eq_true hb139))) ⟨h137, (NR.rdA (i := i) h137 (by first | omega | (simp; done) | (simp; omega)) hAs13)⟩ (fun _ => dv_move (T rfl f81)) ?_
                   refine aw_pure 25 (.pointer (some ⟨g20, o21 + i * 13, none⟩)) rfl (by kernel_rfl) (.yes (d := 74) rfl rfl (congrArg Value.bool (decide_eq_true hb139))) ⟨h137, (NR.rdA (i := i) h137 (by first | omega | (simp; done) | (simp; omega)) hAs13)⟩ (fun _ => dv_indexM (g := g20) (o := o21) (l := l) (c := c) (i := i) (j := (i : Int)) (m := 13) us46 sz52 (T rfl rfl) (T rfl rfl) (by omega) (by first | omega | (simp; done) | (simp; omega))) ?_
                   refine aw_pure 26 (.pointer (some ⟨g20, o21 + (i * 13 + 12), none⟩)) rfl (by kernel_rfl) (.yes (d := 74) rfl rfl (congrArg Value.bool (decide_eq_true hb139))) ⟨h137, (NR.rdA (i := i) h137 (by first | omega | (simp; done) | (simp; omega)) hAs13)⟩ (fun _ => dv_fieldW (g := g20) (o := o21) (i := i * 13) fo52_1 (T rfl rfl)) ?_
                   refine aw_load 27 (.slice (some ⟨g132, o133, none⟩) ((Q i).es.length) cs12) rfl (by kernel_rfl) (.yes (d := 74) rfl rfl (congrArg Value.bool (decide_eq_true hb139))) ⟨h137, (NR.rdA (i := i) h137 (by first | omega | (simp; done) | (simp; omega)) hAs13)⟩ (fun _ s => dv_load agt50 (T rfl rfl) (NR.slA (i := i) s.1 (by first | omega | (simp; done) | (simp; omega)) hAs13 hcs14)) ?_
                   refine aw_pure 28 (.int .i64 ((k : Int))) rfl (by kernel_rfl) (.yes (d := 74) rfl rfl (congrArg Value.bool (decide_eq_true hb139))) ⟨h137, (NR.rdA (i := i) h137 (by first | omega | (simp; done) | (simp; omega)) hAs13)⟩ (fun _ => dv_move (T rfl f82)) ?_
                   refine aw_pure 29 (.pointer (some ⟨g132, o133 + k, none⟩)) rfl (by kernel_rfl) (.yes (d := 74) rfl rfl (congrArg Value.bool (decide_eq_true hb139))) ⟨h137, (NR.rdA (i := i) h137 (by first | omega | (simp; done) | (simp; omega)) hAs13)⟩ (fun _ => dv_indexW (g := g132) (o := o133) (l := (Q i).es.length) (c := cs12) (i := k) (j := (k : Int)) us50 sz2 (T rfl rfl) (T rfl rfl) (by omega) (by first | omega | (simp; done) | (simp; omega))) ?_
                   refine aw_load 30 (.int .i64 (((Q i).es).getD k 0)) rfl (by kernel_rfl) (.yes (d := 74) rfl rfl (congrArg Value.bool (decide_eq_true hb139))) ⟨h137, (NR.rdA (i := i) h137 (by first | omega | (simp; done) | (simp; omega)) hAs13)⟩ (fun _ s => dv_load agt2 (T rfl rfl) (RdI.cell s.2 (by first | omega | (simp; done) | (simp; omega)))) ?_
                   refine aw_pure 31 (.bool (decide ((((Q i).es).getD k 0) ≤ (((Q i).es).getD (((k) - 1)) 0)))) rfl (by kernel_rfl) (.yes (d := 74) rfl rfl (congrArg Value.bool (decide_eq_true hb139))) ⟨h137, (NR.rdA (i := i) h137 (by first | omega | (simp; done) | (simp; omega)) hAs13)⟩ (fun _ => dv_geq (a := ((Q i).es).getD (((k) - 1)) 0) (b := ((Q i).es).getD k 0) (T rfl rfl) (T rfl rfl)) ?_
                   refine aw_pure 32 (.bool (decide ((((Q i).es).getD k 0) ≤ (((Q i).es).getD (((k) - 1)) 0)))) rfl (by kernel_rfl) (.yes (d := 71) rfl rfl (congrArg Value.bool (decide_eq_false (not_not_intro hb138)))) ⟨h137, (NR.rdA (i := i) h137 (by first | omega | (simp; done) | (simp; omega)) hAs13)⟩ (fun _ => dv_pick_t (T rfl (congrArg Value.bool (decide_eq_true hb139))) (T rfl rfl)) ?_
                   refine aw_pure 33 (.bool (decide ((((Q i).es).getD k 0) ≤ (((Q i).es).getD (((k) - 1)) 0)))) rfl (by kernel_rfl) .none ⟨h137, (NR.rdA (i := i) h137 (by first | omega | (simp; done) | (simp; omega)) hAs13)⟩ (fun _ => dv_pick_f (T rfl (congrArg Value.bool (decide_eq_false (not_not_intro hb138)))) (T rfl rfl)) ?_
                   refine aw_done (by kernel_rfl) ?_
                   by_cases hb140 : (((Q i).es).getD k 0) ≤ (((Q i).es).getD (((k) - 1)) 0)
                   · refine rk_ct (T rfl (congrArg Value.bool (decide_eq_true hb140))) ?_
                     refine rk_seq ?_
                     refine rk_reg ?_
                     refine lw_v (.bool false) (dv_assign C) ?_
                     refine lw_nil ?_
                     refine rk_ret Try.func16 (v := .bool false) (res1 Try.results16 (rv_tmp rfl rfl)) ⟨_, rfl, ?_⟩
                     exact ⟨(vf (fun hh_ => by have hh := (hh_.2 i (by omega)).2.2.1 k (by omega); first | exact absurd hh.1 (by assumption) | (have h2_ := hh.2 (by omega); omega) | (have h1_ := hh.1; omega))), E136⟩
                   · refine rk_cf (T rfl (congrArg Value.bool (decide_eq_false hb140))) ?_
                     refine rk_skip ?_
                     refine rk_inBlock ?_
                     refine rk_reg ?_
                     refine lw_v (.int .i64 ((k : Int))) (dv_move (T rfl f82)) ?_
                     refine lw_v (.int .i64 (((k : Int)) + 1)) (dv_add (a := (k : Int)) (b := 1) (z := ((k : Int)) + 1) (T rfl rfl) C (wr_i64 (by omega) (by omega))) ?_
                     refine lw_v (.int .i64 (((k : Int)) + 1)) (dv_assign (T rfl rfl)) ?_
                     refine lw_nil ?_
                     exact ih77 ((Q i).es.length - ((k + 1))) _ _ (by rw [hd125]; omega) ⟨(k + 1), rfl, f80, f81, (vi (by omega)), f83, f84, f85, f86, f87, f88, f89, f90, f91, f92, f93, f94, f95, f96, f97, f98, f99, f100, f101, f102, f103, f104, f105, f106, f107, f108, f109, f110, f111, f112, f113, f114, f115, f116, f117, f118, f119, f120, f121, f122, f123, E136, (by omega), (all_step hin ⟨(by first | assumption | exact Decidable.not_not.1 (by assumption)), fun h0_ => by first | omega | (exfalso; omega)⟩)⟩
                 · refine aw_no 14 rfl (by kernel_rfl) (d := 74) rfl rfl (congrArg Value.bool (decide_eq_false hb139)) ⟨h137, (NR.rdA (i := i) h137 (by first | omega | (simp; done) | (simp; omega)) hAs13)⟩ ?_
                   refine aw_no 15 rfl (by kernel_rfl) (d := 74) rfl rfl (congrArg Value.bool (decide_eq_false hb139)) ⟨h137, (NR.rdA (i := i) h137 (by first | omega | (simp; done) | (simp; omega)) hAs13)⟩ ?_
                   refine aw_no 16 rfl (by kernel_rfl) (d := 74) rfl rfl (congrArg Value.bool (decide_eq_false hb139)) ⟨h137, (NR.rdA (i := i) h137 (by first | omega | (simp; done) | (simp; omega)) hAs13)⟩ ?_
                   refine aw_no 17 rfl (by kernel_rfl) (d := 74) rfl rfl (congrArg Value.bool (decide_eq_false hb139)) ⟨h137, (NR.rdA (i := i) h137 (by first | omega | (simp; done) | (simp; omega)) hAs13)⟩ ?_
                   refine aw_no 18 rfl (by kernel_rfl) (d := 74) rfl rfl (congrArg Value.bool (decide_eq_false hb139)) ⟨h137, (NR.rdA (i := i) h137 (by first | omega | (simp; done) | (simp; omega)) hAs13)⟩ ?_
                   refine aw_no 19 rfl (by kernel_rfl) (d := 74) rfl rfl (congrArg Value.bool (decide_eq_false hb139)) ⟨h137, (NR.rdA (i := i) h137 (by first | omega | (simp; done) | (simp; omega)) hAs13)⟩ ?_
                   refine aw_no 20 rfl (by kernel_rfl) (d := 74) rfl rfl (congrArg Value.bool (decide_eq_false hb139)) ⟨h137, (NR.rdA (i := i) h137 (by first | omega | (simp; done) | (simp; omega)) hAs13)⟩ ?_
                   refine aw_no 21 rfl (by kernel_rfl) (d := 74) rfl rfl (congrArg Value.bool (decide_eq_false hb139)) ⟨h137, (NR.rdA (i := i) h137 (by first | omega | (simp; done) | (simp; omega)) hAs13)⟩ ?_
                   refine aw_no 22 rfl (by kernel_rfl) (d := 74) rfl rfl (congrArg Value.bool (decide_eq_false hb139)) ⟨h137, (NR.rdA (i := i) h137 (by first | omega | (simp; done) | (simp; omega)) hAs13)⟩ ?_
                   refine aw_no 23 rfl (by kernel_rfl) (d := 74) rfl rfl (congrArg Value.bool (decide_eq_false hb139)) ⟨h137, (NR.rdA (i := i) h137 (by first | omega | (simp; done) | (simp; omega)) hAs13)⟩ ?_
                   refine aw_no 24 rfl (by kernel_rfl) (d := 74) rfl rfl (congrArg Value.bool (decide_eq_false hb139)) ⟨h137, (NR.rdA (i := i) h137 (by first | omega | (simp; done) | (simp; omega)) hAs13)⟩ ?_
                   refine aw_no 25 rfl (by kernel_rfl) (d := 74) rfl rfl (congrArg Value.bool (decide_eq_false hb139)) ⟨h137, (NR.rdA (i := i) h137 (by first | omega | (simp; done) | (simp; omega)) hAs13)⟩ ?_
                   refine aw_no 26 rfl (by kernel_rfl) (d := 74) rfl rfl (congrArg Value.bool (decide_eq_false hb139)) ⟨h137, (NR.rdA (i := i) h137 (by first | omega | (simp; done) | (simp; omega)) hAs13)⟩ ?_
                   refine aw_no 27 rfl (by kernel_rfl) (d := 74) rfl rfl (congrArg Value.bool (decide_eq_false hb139)) ⟨h137, (NR.rdA (i := i) h137 (by first | omega | (simp; done) | (simp; omega)) hAs13)⟩ ?_
                   refine aw_no 28 rfl (by kernel_rfl) (d := 74) rfl rfl (congrArg Value.bool (decide_eq_false hb139)) ⟨h137, (NR.rdA (i := i) h137 (by first | omega | (simp; done) | (simp; omega)) hAs13)⟩ ?_
                   refine aw_no 29 rfl (by kernel_rfl) (d := 74) rfl rfl (congrArg Value.bool (decide_eq_false hb139)) ⟨h137, (NR.rdA (i := i) h137 (by first | omega | (simp; done) | (simp; omega)) hAs13)⟩ ?_
                   refine aw_no 30 rfl (by kernel_rfl) (d := 74) rfl rfl (congrArg Value.bool (decide_eq_false hb139)) ⟨h137, (NR.rdA (i := i) h137 (by first | omega | (simp; done) | (simp; omega)) hAs13)⟩ ?_
                   refine aw_no 31 rfl (by kernel_rfl) (d := 74) rfl rfl (congrArg Value.bool (decide_eq_false hb139)) ⟨h137, (NR.rdA (i := i) h137 (by first | omega | (simp; done) | (simp; omega)) hAs13)⟩ ?_
                   refine aw_pure 32 (.bool false) rfl (by kernel_rfl) (.yes (d := 71) rfl rfl (congrArg Value.bool (decide_eq_false (not_not_intro hb138)))) ⟨h137, (NR.rdA (i := i) h137 (by first | omega | (simp; done) | (simp; omega)) hAs13)⟩ (fun _ => dv_pick_f (T rfl (congrArg Value.bool (decide_eq_false hb139))) C) ?_
                   refine aw_pure 33 (.bool false) rfl (by kernel_rfl) .none ⟨h137, (NR.rdA (i := i) h137 (by first | omega | (simp; done) | (simp; omega)) hAs13)⟩ (fun _ => dv_pick_f (T rfl (congrArg Value.bool (decide_eq_false (not_not_intro hb138)))) (T rfl rfl)) ?_
                   refine aw_done (by kernel_rfl) ?_
                   refine rk_cf (T rfl rfl) ?_
                   refine rk_skip ?_
                   refine rk_inBlock ?_
                   refine rk_reg ?_
                   refine lw_v (.int .i64 ((k : Int))) (dv_move (T rfl f82)) ?_
                   refine lw_v (.int .i64 (((k : Int)) + 1)) (dv_add (a := (k : Int)) (b := 1) (z := ((k : Int)) + 1) (T rfl rfl) C (wr_i64 (by omega) (by omega))) ?_
                   refine lw_v (.int .i64 (((k : Int)) + 1)) (dv_assign (T rfl rfl)) ?_
                   refine lw_nil ?_
                   exact ih77 ((Q i).es.length - ((k + 1))) _ _ (by rw [hd125]; omega) ⟨(k + 1), rfl, f80, f81, (vi (by omega)), f83, f84, f85, f86, f87, f88, f89, f90, f91, f92, f93, f94, f95, f96, f97, f98, f99, f100, f101, f102, f103, f104, f105, f106, f107, f108, f109, f110, f111, f112, f113, f114, f115, f116, f117, f118, f119, f120, f121, f122, f123, E136, (by omega), (all_step hin ⟨(by first | assumption | exact Decidable.not_not.1 (by assumption)), fun h0_ => by first | omega | (exfalso; omega)⟩)⟩
               · refine aw_no 11 rfl (by kernel_rfl) (d := 71) rfl rfl (congrArg Value.bool (decide_eq_true hb138)) ⟨h137, (NR.rdA (i := i) h137 (by first | omega | (simp; done) | (simp; omega)) hAs13)⟩ ?_
                 refine aw_no 12 rfl (by kernel_rfl) (d := 71) rfl rfl (congrArg Value.bool (decide_eq_true hb138)) ⟨h137, (NR.rdA (i := i) h137 (by first | omega | (simp; done) | (simp; omega)) hAs13)⟩ ?_
                 refine aw_no 13 rfl (by kernel_rfl) (d := 71) rfl rfl (congrArg Value.bool (decide_eq_true hb138)) ⟨h137, (NR.rdA (i := i) h137 (by first | omega | (simp; done) | (simp; omega)) hAs13)⟩ ?_
                 refine aw_nou 14 rfl (by kernel_rfl) (d := 74) rfl rfl ⟨h137, (NR.rdA (i := i) h137 (by first | omega | (simp; done) | (simp; omega)) hAs13)⟩ ?_
                 refine aw_nou 15 rfl (by kernel_rfl) (d := 74) rfl rfl ⟨h137, (NR.rdA (i := i) h137 (by first | omega | (simp; done) | (simp; omega)) hAs13)⟩ ?_
                 refine aw_nou 16 rfl (by kernel_rfl) (d := 74) rfl rfl ⟨h137, (NR.rdA (i := i) h137 (by first | omega | (simp; done) | (simp; omega)) hAs13)⟩ ?_
                 refine aw_nou 17 rfl (by kernel_rfl) (d := 74) rfl rfl ⟨h137, (NR.rdA (i := i) h137 (by first | omega | (simp; done) | (simp; omega)) hAs13)⟩ ?_
                 refine aw_nou 18 rfl (by kernel_rfl) (d := 74) rfl rfl ⟨h137, (NR.rdA (i := i) h137 (by first | omega | (simp; done) | (simp; omega)) hAs13)⟩ ?_
                 refine aw_nou 19 rfl (by kernel_rfl) (d := 74) rfl rfl ⟨h137, (NR.rdA (i := i) h137 (by first | omega | (simp; done) | (simp; omega)) hAs13)⟩ ?_
                 refine aw_nou 20 rfl (by kernel_rfl) (d := 74) rfl rfl ⟨h137, (NR.rdA (i := i) h137 (by first | omega | (simp; done) | (simp; omega)) hAs13)⟩ ?_
                 refine aw_nou 21 rfl (by kernel_rfl) (d := 74) rfl rfl ⟨h137, (NR.rdA (i := i) h137 (by first | omega | (simp; done) | (simp; omega)) hAs13)⟩ ?_
                 refine aw_nou 22 rfl (by kernel_rfl) (d := 74) rfl rfl ⟨h137, (NR.rdA (i := i) h137 (by first | omega | (simp; done) | (simp; omega)) hAs13)⟩ ?_
                 refine aw_nou 23 rfl (by kernel_rfl) (d := 74) rfl rfl ⟨h137, (NR.rdA (i := i) h137 (by first | omega | (simp; done) | (simp; omega)) hAs13)⟩ ?_
                 refine aw_nou 24 rfl (by kernel_rfl) (d := 74) rfl rfl ⟨h137, (NR.rdA (i := i) h137 (by first | omega | (simp; done) | (simp; omega)) hAs13)⟩ ?_
                 refine aw_nou 25 rfl (by kernel_rfl) (d := 74) rfl rfl ⟨h137, (NR.rdA (i := i) h137 (by first | omega | (simp; done) | (simp; omega)) hAs13)⟩ ?_
                 refine aw_nou 26 rfl (by kernel_rfl) (d := 74) rfl rfl ⟨h137, (NR.rdA (i := i) h137 (by first | omega | (simp; done) | (simp; omega)) hAs13)⟩ ?_
                 refine aw_nou 27 rfl (by kernel_rfl) (d := 74) rfl rfl ⟨h137, (NR.rdA (i := i) h137 (by first | omega | (simp; done) | (simp; omega)) hAs13)⟩ ?_
                 refine aw_nou 28 rfl (by kernel_rfl) (d := 74) rfl rfl ⟨h137, (NR.rdA (i := i) h137 (by first | omega | (simp; done) | (simp; omega)) hAs13)⟩ ?_
                 refine aw_nou 29 rfl (by kernel_rfl) (d := 74) rfl rfl ⟨h137, (NR.rdA (i := i) h137 (by first | omega | (simp; done) | (simp; omega)) hAs13)⟩ ?_
                 refine aw_nou 30 rfl (by kernel_rfl) (d := 74) rfl rfl ⟨h137, (NR.rdA (i := i) h137 (by first | omega | (simp; done) | (simp; omega)) hAs13)⟩ ?_
                 refine aw_nou 31 rfl (by kernel_rfl) (d := 74) rfl rfl ⟨h137, (NR.rdA (i := i) h137 (by first | omega | (simp; done) | (simp; omega)) hAs13)⟩ ?_
                 refine aw_no 32 rfl (by kernel_rfl) (d := 71) rfl rfl (congrArg Value.bool (decide_eq_true hb138)) ⟨h137, (NR.rdA (i := i) h137 (by first | omega | (simp; done) | (simp; omega)) hAs13)⟩ ?_
                 refine aw_pure 33 (.bool true) rfl (by kernel_rfl) .none ⟨h137, (NR.rdA (i := i) h137 (by first | omega | (simp; done) | (simp; omega)) hAs13)⟩ (fun _ => dv_pick_t (T rfl (congrArg Value.bool (decide_eq_true hb138))) C) ?_
                 refine aw_done (by kernel_rfl) ?_
                 refine rk_ct (T rfl rfl) ?_
                 refine rk_seq ?_
                 refine rk_reg ?_
                 refine lw_v (.bool false) (dv_assign C) ?_
                 refine lw_nil ?_
                 refine rk_ret Try.func16 (v := .bool false) (res1 Try.results16 (rv_tmp rfl rfl)) ⟨_, rfl, ?_⟩
                 exact ⟨(vf (fun hh_ => by have hh := (hh_.2 i (by omega)).2.2.1 k (by omega); first | exact absurd hh.1 (by assumption) | (have h2_ := hh.2 (by omega); omega) | (have h1_ := hh.1; omega))), E136⟩
             · refine rk_cf (T rfl (congrArg Value.bool (decide_eq_false hb127))) ?_
               refine rk_exit rfl ?_
               refine rk_inBlock ?_
               refine rk_reg ?_
               refine lw_v (.int .i64 ((i : Int))) (dv_move (T rfl f81)) ?_
               refine lw_v (.int .i64 (((i : Int)) + 1)) (dv_add (a := (i : Int)) (b := 1) (z := ((i : Int)) + 1) (T rfl rfl) C (wr_i64 (by omega) (by omega))) ?_
               refine lw_v (.int .i64 (((i : Int)) + 1)) (dv_assign (T rfl rfl)) ?_
               refine lw_nil ?_
               exact ih4 (l - ((i + 1))) _ _ (by rw [hd10]; omega) ⟨(i + 1), rfl, f80, (vi (by omega)), E124, (by omega), (all_step hall ⟨(by first | assumption | exact Decidable.not_not.1 (by assumption)), by omega, (fun k hk => hin k (by omega)), fun h0_ => by first | omega | (exfalso; omega)⟩)⟩
         · refine aw_no 20 rfl (by kernel_rfl) (d := 33) rfl rfl (congrArg Value.bool (decide_eq_false hb28)) h25 ?_
           refine aw_no 21 rfl (by kernel_rfl) (d := 33) rfl rfl (congrArg Value.bool (decide_eq_false hb28)) h25 ?_
           refine aw_no 22 rfl (by kernel_rfl) (d := 33) rfl rfl (congrArg Value.bool (decide_eq_false hb28)) h25 ?_
           refine aw_no 23 rfl (by kernel_rfl) (d := 33) rfl rfl (congrArg Value.bool (decide_eq_false hb28)) h25 ?_
           refine aw_no 24 rfl (by kernel_rfl) (d := 33) rfl rfl (congrArg Value.bool (decide_eq_false hb28)) h25 ?_
           refine aw_no 25 rfl (by kernel_rfl) (d := 33) rfl rfl (congrArg Value.bool (decide_eq_false hb28)) h25 ?_
           refine aw_no 26 rfl (by kernel_rfl) (d := 33) rfl rfl (congrArg Value.bool (decide_eq_false hb28)) h25 ?_
           refine aw_no 27 rfl (by kernel_rfl) (d := 33) rfl rfl (congrArg Value.bool (decide_eq_false hb28)) h25 ?_
           refine aw_no 28 rfl (by kernel_rfl) (d := 33) rfl rfl (congrArg Value.bool (decide_eq_false hb28)) h25 ?_
           refine aw_no 29 rfl (by kernel_rfl) (d := 33) rfl rfl (congrArg Value.bool (decide_eq_false hb28)) h25 ?_
           refine aw_no 30 rfl (by kernel_rfl) (d := 33) rfl rfl (congrArg Value.bool (decide_eq_false hb28)) h25 ?_
           refine aw_no 31 rfl (by kernel_rfl) (d := 33) rfl rfl (congrArg Value.bool (decide_eq_false hb28)) h25 ?_
           refine aw_no 32 rfl (by kernel_rfl) (d := 33) rfl rfl (congrArg Value.bool (decide_eq_false hb28)) h25 ?_
           refine aw_no 33 rfl (by kernel_rfl) (d := 33) rfl rfl (congrArg Value.bool (decide_eq_false hb28)) h25 ?_
           refine aw_no 34 rfl (by kernel_rfl) (d := 33) rfl rfl (congrArg Value.bool (decide_eq_false hb28)) h25 ?_
           refine aw_pure 35 (.bool false) rfl (by kernel_rfl) (.yes (d := 30) rfl rfl (congrArg Value.bool (decide_eq_false hb27))) h25 (fun _ => dv_pick_f (T rfl (congrArg Value.bool (decide_eq_false hb28))) C) ?_
           refine aw_pure 36 (.bool false) rfl (by kernel_rfl) .none h25 (fun _ => dv_pick_f (T rfl (congrArg Value.bool (decide_eq_false hb27))) (T rfl rfl)) ?_
           refine aw_done (by kernel_rfl) ?_
           refine rk_cf (T rfl rfl) ?_
           refine rk_skip ?_
           refine rk_seq ?_
           refine rk_reg ?_
           refine lw_v (.int .i64 0) (dv_assign C) ?_
           refine lw_nil ?_
           refine rk_block ?_
           refine rk_loop (fun dm_ fr wl => ∃ (k : Nat), dm_ = (Q i).es.length - k ∧ fr 0 = .slice (some ⟨g20, o21, none⟩) l c ∧ fr 3 = .int .i64 ((i : Int)) ∧ fr 4 = .int .i64 ((k : Int)) ∧ fr 8 = .int .i64 ((i : Int)) ∧ fr 9 = .slice (some ⟨g20, o21, none⟩) l c ∧ fr 10 = .int .i64 ((l : Int)) ∧ fr 11 = .bool (decide (((i : Int)) < ((l : Int)))) ∧ fr 14 = .slice (some ⟨g20, o21, none⟩) l c ∧ fr 15 = .int .i64 ((i : Int)) ∧ fr 16 = .pointer (some ⟨g20, o21 + i * 13, none⟩) ∧ fr 17 = .pointer (some ⟨g20, o21 + (i * 13), none⟩) ∧ fr 18 = .agg #[.int .u64 (wv3 ((Q i).x)), .int .u64 (wv2 ((Q i).x)), .int .u64 (wv1 ((Q i).x)), .int .u64 (wv0 ((Q i).x)), .int .u64 (wv3 ((Q i).y)), .int .u64 (wv2 ((Q i).y)), .int .u64 (wv1 ((Q i).y)), .int .u64 (wv0 ((Q i).y)), .int .u64 (wv3 ((Q i).u)), .int .u64 (wv2 ((Q i).u)), .int .u64 (wv1 ((Q i).u)), .int .u64 (wv0 ((Q i).u))] ∧ fr 19 = .bool (decide (pOk ((Q i).x) ((Q i).y) ((Q i).u))) ∧ fr 20 = .bool (decide (¬ (pOk ((Q i).x) ((Q i).y) ((Q i).u)))) ∧ fr 21 = .bool (decide (¬ (pOk ((Q i).x) ((Q i).y) ((Q i).u)))) ∧ fr 22 = .slice (some ⟨g20, o21, none⟩) l c ∧ fr 23 = .int .i64 ((i : Int)) ∧ fr 24 = .pointer (some ⟨g20, o21 + i * 13, none⟩) ∧ fr 25 = .pointer (some ⟨g20, o21 + (i * 13 + 12), none⟩) ∧ fr 26 = .slice As11 ((Q i).es.length) cs12 ∧ fr 27 = .int .i64 (((Q i).es.length : Int)) ∧ fr 28 = .bool (decide ((((Q i).es.length : Int)) < 1)) ∧ fr 29 = .bool (decide ((((Q i).es.length : Int)) < 1)) ∧ fr 30 = .bool (decide ((((Q i).es.length : Int)) < 1)) ∧ fr 31 = .int .i64 ((i : Int)) ∧ fr 32 = .bool (decide (0 < ((i : Int)))) ∧ fr 33 = .bool (decide (0 < ((i : Int)))) ∧ fr 49 = .bool false ∧ fr 50 = .bool false ∧ Below w.heap.size w wl ∧ (k ≤ (Q i).es.length) ∧ (∀ q, q < k → riseAt (Q i).es q)) ((Q i).es.length - 0) ⟨0, rfl, f7, f8, (vi (by omega)), rfl, rfl, rfl, rfl, rfl, rfl, rfl, rfl, rfl, rfl, rfl, rfl, rfl, rfl, rfl, rfl, rfl, rfl, rfl, rfl, rfl, rfl, rfl, rfl, rfl, rfl, E24, (Nat.zero_le _), (fun q hq => absurd hq (by omega))⟩ ?_
           intro d145 fr144 w141 hI142 ih143
           obtain ⟨k, hd176, f146, f147, f148, f149, f150, f151, f152, f153, f154, f155, f156, f157, f158, f159, f160, f161, f162, f163, f164, f165, f166, f167, f168, f169, f170, f171, f172, f173, f174, E175, hk_, hin⟩ := hI142
           refine rk_seq ?_
           refine rk_seq ?_
           refine rk_reg ?_
           refine lw_v (.int .i64 ((k : Int))) (dv_move (T rfl f148)) ?_
           refine lw_v (.slice (some ⟨g20, o21, none⟩) l c) (dv_move (T rfl f146)) ?_
           refine lw_v (.int .i64 ((i : Int))) (dv_move (T rfl f147)) ?_
           refine lw_v (.pointer (some ⟨g20, o21 + i * 13, none⟩)) (dv_indexM (g := g20) (o := o21) (l := l) (c := c) (i := i) (j := (i : Int)) (m := 13) us46 sz52 (T rfl rfl) (T rfl rfl) (by omega) (by first | omega | (simp; done) | (simp; omega))) ?_
           refine lw_v (.pointer (some ⟨g20, o21 + (i * 13 + 12), none⟩)) (dv_fieldW (g := g20) (o := o21) (i := i * 13) fo52_1 (T rfl rfl)) ?_
           have h177 := (hx.ext E175)
           refine lw_v (.slice As11 ((Q i).es.length) cs12) (dv_load agt50 (T rfl rfl) (NR.slA (i := i) h177 (by first | omega | (simp; done) | (simp; omega)) hAs13 hcs14)) ?_
           refine lw_v (.int .i64 (((Q i).es.length : Int))) (dv_len (ad := As11) (l := (Q i).es.length) (c := cs12) us50 (T rfl rfl)) ?_
           refine lw_v (.bool (decide (((k : Int)) < (((Q i).es.length : Int))))) (dv_lss (a := (k : Int)) (b := ((Q i).es.length : Int)) (T rfl rfl) (T rfl rfl)) ?_
           refine lw_nil ?_
           by_cases hb178 : ((k : Int)) < (((Q i).es.length : Int))
           · refine rk_ct (T rfl (congrArg Value.bool (decide_eq_true hb178))) ?_
             refine rk_skip ?_
             refine rk_seq ?_
             refine rk_block ?_
             refine rk_seq ?_
             refine rk_any (fun w => NR w lo hi (some ⟨g20, o21, none⟩) l (fun i_ => evW (Q i_)) (fun i_ => (Q i_).es) SL ∧ RdI w .i64 As11 ((Q i).es)) [] mo ?_
             intro w179 d180
             have E181 := below_ext E175 E175.size d180.ext
             have h182 := (h177.ext d180.ext)
             refine aw_pure 0 (.slice (some ⟨g20, o21, none⟩) l c) rfl (by kernel_rfl) .none ⟨h182, (NR.rdA (i := i) h182 (by first | omega | (simp; done) | (simp; omega)) hAs13)⟩ (fun _ => dv_move (T rfl f146)) ?_
             refine aw_pure 1 (.int .i64 ((i : Int))) rfl (by kernel_rfl) .none ⟨h182, (NR.rdA (i := i) h182 (by first | omega | (simp; done) | (simp; omega)) hAs13)⟩ (fun _ => dv_move (T rfl f147)) ?_
             refine aw_pure 2 (.pointer (some ⟨g20, o21 + i * 13, none⟩)) rfl (by kernel_rfl) .none ⟨h182, (NR.rdA (i := i) h182 (by first | omega | (simp; done) | (simp; omega)) hAs13)⟩ (fun _ => dv_indexM (g := g20) (o := o21) (l := l) (c := c) (i := i) (j := (i : Int)) (m := 13) us46 sz52 (T rfl rfl) (T rfl rfl) (by omega) (by first | omega | (simp; done) | (simp; omega))) ?_
             refine aw_pure 3 (.pointer (some ⟨g20, o21 + (i * 13 + 12), none⟩)) rfl (by kernel_rfl) .none ⟨h182, (NR.rdA (i := i) h182 (by first | omega | (simp; done) | (simp; omega)) hAs13)⟩ (fun _ => dv_fieldW (g := g20) (o := o21) (i := i * 13) fo52_1 (T rfl rfl)) ?_
             refine aw_load 4 (.slice As11 ((Q i).es.length) cs12) rfl (by kernel_rfl) .none ⟨h182, (NR.rdA (i := i) h182 (by first | omega | (simp; done) | (simp; omega)) hAs13)⟩ (fun _ s => dv_load agt50 (T rfl rfl) (NR.slA (i := i) s.1 (by first | omega | (simp; done) | (simp; omega)) hAs13 hcs14)) ?_
             refine aw_pure 5 (.int .i64 ((k : Int))) rfl (by kernel_rfl) .none ⟨h182, (NR.rdA (i := i) h182 (by first | omega | (simp; done) | (simp; omega)) hAs13)⟩ (fun _ => dv_move (T rfl f148)) ?_
             obtain ⟨g183, o184, rfl⟩ := RdI.at (NR.rdA (i := i) h182 (by first | omega | (simp; done) | (simp; omega)) hAs13) (by first | omega | (simp; done) | (simp; omega))
             refine aw_pure 6 (.pointer (some ⟨g183, o184 + k, none⟩)) rfl (by kernel_rfl) .none ⟨h182, (NR.rdA (i := i) h182 (by first | omega | (simp; done) | (simp; omega)) hAs13)⟩ (fun _ => dv_indexW (g := g183) (o := o184) (l := (Q i).es.length) (c := cs12) (i := k) (j := (k : Int)) us50 sz2 (T rfl rfl) (T rfl rfl) (by omega) (by first | omega | (simp; done) | (simp; omega))) ?_
             refine aw_load 7 (.int .i64 (((Q i).es).getD k 0)) rfl (by kernel_rfl) .none ⟨h182, (NR.rdA (i := i) h182 (by first | omega | (simp; done) | (simp; omega)) hAs13)⟩ (fun _ s => dv_load agt2 (T rfl rfl) (RdI.cell s.2 (by first | omega | (simp; done) | (simp; omega)))) ?_
             refine aw_one 8 rfl (by kernel_rfl) .none (oe_callf (vs := [.int .i64 (((Q i).es).getD k 0), .int .i64 0, .int .i64 39]) co53 (ar3 (T rfl rfl) C C) (l1In_ok (n := ((Q i).es).getD k 0) (lo := 0) (hi := 39)  ) ?_)
             rintro _ w185 ⟨rfl, e186⟩
             have E187 := below_ext E181 E181.size e186
             have h188 := (h182.ext e186)
             refine ⟨.inr ⟨h188, (NR.rdA (i := i) h188 (by first | omega | (simp; done) | (simp; omega)) hAs13)⟩, ?_⟩
             refine aw_pure 9 (.bool (decide (¬ ((0 : Int) ≤ (((Q i).es).getD k 0) ∧ (((Q i).es).getD k 0) ≤ (39 : Int))))) rfl (by kernel_rfl) .none ⟨h188, (NR.rdA (i := i) h188 (by first | omega | (simp; done) | (simp; omega)) hAs13)⟩ (fun _ => dv_notd (p := (0 : Int) ≤ (((Q i).es).getD k 0) ∧ (((Q i).es).getD k 0) ≤ (39 : Int)) (T rfl rfl)) ?_
             refine aw_pure 10 (.bool (decide (¬ ((0 : Int) ≤ (((Q i).es).getD k 0) ∧ (((Q i).es).getD k 0) ≤ (39 : Int))))) rfl (by kernel_rfl) .none ⟨h188, (NR.rdA (i := i) h188 (by first | omega | (simp; done) | (simp; omega)) hAs13)⟩ (fun _ => dv_move (T rfl rfl)) ?_
             by_cases hb189 : (0 : Int) ≤ (((Q i).es).getD k 0) ∧ (((Q i).es).getD k 0) ≤ (39 : Int)
             · refine aw_pure 11 (.int .i64 ((k : Int))) rfl (by kernel_rfl) (.yes (d := 71) rfl rfl (congrArg Value.bool (decide_eq_false (not_not_intro hb189)))) ⟨h188, (NR.rdA (i := i) h188 (by first | omega | (simp; done) | (simp; omega)) hAs13)⟩ (fun _ => dv_move (T rfl f148)) ?_
               refine aw_pure 12 (.bool (decide (0 < ((k : Int))))) rfl (by kernel_rfl) (.yes (d := 71) rfl rfl (congrArg Value.bool (decide_eq_false (not_not_intro hb189)))) ⟨h188, (NR.rdA (i := i) h188 (by first | omega | (simp; done) | (simp; omega)) hAs13)⟩ (fun _ => dv_gtr (a := (k : Int)) (b := 0) (T rfl rfl) C) ?_
               refine aw_pure 13 (.bool (decide (0 < ((k : Int))))) rfl (by kernel_rfl) (.yes (d := 71) rfl rfl (congrArg Value.bool (decide_eq_false (not_not_intro hb189)))) ⟨h188, (NR.rdA (i := i) h188 (by first | omega | (simp; done) | (simp; omega)) hAs13)⟩ (fun _ => dv_move (T rfl rfl)) ?_
               by_cases hb190 : 0 < ((k : Int))
               · refine aw_pure 14 (.slice (some ⟨g20, o21, none⟩) l c) rfl (by kernel_rfl) (.yes (d := 74) rfl rfl (congrArg Value.bool (decide_eq_true hb190))) ⟨h188, (NR.rdA (i := i) h188 (by first | omega | (simp; done) | (simp; omega)) hAs13)⟩ (fun _ => dv_move (T rfl f146)) ?_
                 refine aw_pure 15 (.int .i64 ((i : Int))) rfl (by kernel_rfl) (.yes (d := 74) rfl rfl (congrArg Value.bool (decide_eq_true hb190))) ⟨h188, (NR.rdA (i := i) h188 (by first | omega | (simp; done) | (simp; omega)) hAs13)⟩ (fun _ => dv_move (T rfl f147)) ?_
                 refine aw_pure 16 (.pointer (some ⟨g20, o21 + i * 13, none⟩)) rfl (by kernel_rfl) (.yes (d := 74) rfl rfl (congrArg Value.bool (decide_eq_true hb190))) ⟨h188, (NR.rdA (i := i) h188 (by first | omega | (simp; done) | (simp; omega)) hAs13)⟩ (fun _ => dv_indexM (g := g20) (o := o21) (l := l) (c := c) (i := i) (j := (i : Int)) (m := 13) us46 sz52 (T rfl rfl) (T rfl rfl) (by omega) (by first | omega | (simp; done) | (simp; omega))) ?_
                 refine aw_pure 17 (.pointer (some ⟨g20, o21 + (i * 13 + 12), none⟩)) rfl (by kernel_rfl) (.yes (d := 74) rfl rfl (congrArg Value.bool (decide_eq_true hb190))) ⟨h188, (NR.rdA (i := i) h188 (by first | omega | (simp; done) | (simp; omega)) hAs13)⟩ (fun _ => dv_fieldW (g := g20) (o := o21) (i := i * 13) fo52_1 (T rfl rfl)) ?_
                 refine aw_load 18 (.slice (some ⟨g183, o184, none⟩) ((Q i).es.length) cs12) rfl (by kernel_rfl) (.yes (d := 74) rfl rfl (congrArg Value.bool (decide_eq_true hb190))) ⟨h188, (NR.rdA (i := i) h188 (by first | omega | (simp; done) | (simp; omega)) hAs13)⟩ (fun _ s => dv_load agt50 (T rfl rfl) (NR.slA (i := i) s.1 (by first | omega | (simp; done) | (simp; omega)) hAs13 hcs14)) ?_
                 refine aw_pure 19 (.int .i64 ((k : Int))) rfl (by kernel_rfl) (.yes (d := 74) rfl rfl (congrArg Value.bool (decide_eq_true hb190))) ⟨h188, (NR.rdA (i := i) h188 (by first | omega | (simp; done) | (simp; omega)) hAs13)⟩ (fun _ => dv_move (T rfl f148)) ?_
                 refine aw_pure 20 (.int .i64 (((k : Int)) - 1)) rfl (by kernel_rfl) (.yes (d := 74) rfl rfl (congrArg Value.bool (decide_eq_true hb190))) ⟨h188, (NR.rdA (i := i) h188 (by first | omega | (simp; done) | (simp; omega)) hAs13)⟩ (fun _ => dv_sub (a := (k : Int)) (b := 1) (z := ((k : Int)) - 1) (T rfl rfl) C (wr_i64 (by omega) (by omega))) ?_
                 refine aw_pure 21 (.pointer (some ⟨g183, o184 + ((k) - 1), none⟩)) rfl (by kernel_rfl) (.yes (d := 74) rfl rfl (congrArg Value.bool (decide_eq_true hb190))) ⟨h188, (NR.rdA (i := i) h188 (by first | omega | (simp; done) | (simp; omega)) hAs13)⟩ (fun _ => dv_indexW (g := g183) (o := o184) (l := (Q i).es.length) (c := cs12) (i := ((k) - 1)) (j := ((k : Int)) - 1) us50 sz2 (T rfl rfl) (T rfl rfl) (by omega) (by first | omega | (simp; done) | (simp; omega))) ?_
                 refine aw_load 22 (.int .i64 (((Q i).es).getD (((k) - 1)) 0)) rfl (by kernel_rfl) (.yes (d := 74) rfl rfl (congrArg Value.bool (decide_eq_true hb190))) ⟨h188, (NR.rdA (i := i) h188 (by first | omega | (simp; done) | (simp; omega)) hAs13)⟩ (fun _ s => dv_load agt2 (T rfl rfl) (RdI.cell s.2 (by first | omega | (simp; done) | (simp; omega)))) ?_
                 refine aw_pure 23 (.slice (some ⟨g20, o21, none⟩) l c) rfl (by kernel_rfl) (.yes (d := 74) rfl rfl (congrArg Value.bool (decide_eq_true hb190))) ⟨h188, (NR.rdA (i := i) h188 (by first | omega | (simp; done) | (simp; omega)) hAs13)⟩ (fun _ => dv_move (T rfl f146)) ?_
                 refine aw_pure 24 (.int .i64 ((i : Int))) rfl (by kernel_rfl) (.yes (d := 74) rfl rfl (congrArg Value.bool (decide_eq_true hb190))) ⟨h188, (NR.rdA (i := i) h188 (by first | omega | (simp; done) | (simp; omega)) hAs13)⟩ (fun _ => dv_move (T rfl f147)) ?_
                 refine aw_pure 25 (.pointer (some ⟨g20, o21 + i * 13, none⟩)) rfl (by kernel_rfl) (.yes (d := 74) rfl rfl (congrArg Value.bool (decide_eq_true hb190))) ⟨h188, (NR.rdA (i := i) h188 (by first | omega | (simp; done) | (simp; omega)) hAs13)⟩ (fun _ => dv_indexM (g := g20) (o := o21) (l := l) (c := c) (i := i) (j := (i : Int)) (m := 13) us46 sz52 (T rfl rfl) (T rfl rfl) (by omega) (by first | omega | (simp; done) | (simp; omega))) ?_
                 refine aw_pure 26 (.pointer (some ⟨g20, o21 + (i * 13 + 12), none⟩)) rfl (by kernel_rfl) (.yes (d := 74) rfl rfl (congrArg Value.bool (decide_eq_true hb190))) ⟨h188, (NR.rdA (i := i) h188 (by first | omega | (simp; done) | (simp; omega)) hAs13)⟩ (fun _ => dv_fieldW (g := g20) (o := o21) (i := i * 13) fo52_1 (T rfl rfl)) ?_
                 refine aw_load 27 (.slice (some ⟨g183, o184, none⟩) ((Q i).es.length) cs12) rfl (by kernel_rfl) (.yes (d := 74) rfl rfl (congrArg Value.bool (decide_eq_true hb190))) ⟨h188, (NR.rdA (i := i) h188 (by first | omega | (simp; done) | (simp; omega)) hAs13)⟩ (fun _ s => dv_load agt50 (T rfl rfl) (NR.slA (i := i) s.1 (by first | omega | (simp; done) | (simp; omega)) hAs13 hcs14)) ?_
                 refine aw_pure 28 (.int .i64 ((k : Int))) rfl (by kernel_rfl) (.yes (d := 74) rfl rfl (congrArg Value.bool (decide_eq_true hb190))) ⟨h188, (NR.rdA (i := i) h188 (by first | omega | (simp; done) | (simp; omega)) hAs13)⟩ (fun _ => dv_move (T rfl f148)) ?_
                 refine aw_pure 29 (.pointer (some ⟨g183, o184 + k, none⟩)) rfl (by kernel_rfl) (.yes (d := 74) rfl rfl (congrArg Value.bool (decide_eq_true hb190))) ⟨h188, (NR.rdA (i := i) h188 (by first | omega | (simp; done) | (simp; omega)) hAs13)⟩ (fun _ => dv_indexW (g := g183) (o := o184) (l := (Q i).es.length) (c := cs12) (i := k) (j := (k : Int)) us50 sz2 (T rfl rfl) (T rfl rfl) (by omega) (by first | omega | (simp; done) | (simp; omega))) ?_
                 refine aw_load 30 (.int .i64 (((Q i).es).getD k 0)) rfl (by kernel_rfl) (.yes (d := 74) rfl rfl (congrArg Value.bool (decide_eq_true hb190))) ⟨h188, (NR.rdA (i := i) h188 (by first | omega | (simp; done) | (simp; omega)) hAs13)⟩ (fun _ s => dv_load agt2 (T rfl rfl) (RdI.cell s.2 (by first | omega | (simp; done) | (simp; omega)))) ?_
                 refine aw_pure 31 (.bool (decide ((((Q i).es).getD k 0) ≤ (((Q i).es).getD (((k) - 1)) 0)))) rfl (by kernel_rfl) (.yes (d := 74) rfl rfl (congrArg Value.bool (decide_eq_true hb190))) ⟨h188, (NR.rdA (i := i) h188 (by first | omega | (simp; done) | (simp; omega)) hAs13)⟩ (fun _ => dv_geq (a := ((Q i).es).getD (((k) - 1)) 0) (b := ((Q i).es).getD k 0) (T rfl rfl) (T rfl rfl)) ?_
                 refine aw_pure 32 (.bool (decide ((((Q i).es).getD k 0) ≤ (((Q i).es).getD (((k) - 1)) 0)))) rfl (by kernel_rfl) (.yes (d := 71) rfl rfl (congrArg Value.bool (decide_eq_false (not_not_intro hb189)))) ⟨h188, (NR.rdA (i := i) h188 (by first | omega | (simp; done) | (simp; omega)) hAs13)⟩ (fun _ => dv_pick_t (T rfl (congrArg Value.bool (decide_eq_true hb190))) (T rfl rfl)) ?_
                 refine aw_pure 33 (.bool (decide ((((Q i).es).getD k 0) ≤ (((Q i).es).getD (((k) - 1)) 0)))) rfl (by kernel_rfl) .none ⟨h188, (NR.rdA (i := i) h188 (by first | omega | (simp; done) | (simp; omega)) hAs13)⟩ (fun _ => dv_pick_f (T rfl (congrArg Value.bool (decide_eq_false (not_not_intro hb189)))) (T rfl rfl)) ?_
                 refine aw_done (by kernel_rfl) ?_
                 by_cases hb191 : (((Q i).es).getD k 0) ≤ (((Q i).es).getD (((k) - 1)) 0)
                 · refine rk_ct (T rfl (congrArg Value.bool (decide_eq_true hb191))) ?_
                   refine rk_seq ?_
                   refine rk_reg ?_
                   refine lw_v (.bool false) (dv_assign C) ?_
                   refine lw_nil ?_
                   refine rk_ret Try.func16 (v := .bool false) (res1 Try.results16 (rv_tmp rfl rfl)) ⟨_, rfl, ?_⟩
                   exact ⟨(vf (fun hh_ => by have hh := (hh_.2 i (by omega)).2.2.1 k (by omega); first | exact absurd hh.1 (by assumption) | (have h2_ := hh.2 (by omega); omega) | (have h1_ := hh.1; omega))), E187⟩
                 · refine rk_cf (T rfl (congrArg Value.bool (decide_eq_false hb191))) ?_
                   refine rk_skip ?_
                   refine rk_inBlock ?_
                   refine rk_reg ?_
                   refine lw_v (.int .i64 ((k : Int))) (dv_move (T rfl f148)) ?_
                   refine lw_v (.int .i64 (((k : Int)) + 1)) (dv_add (a := (k : Int)) (b := 1) (z := ((k : Int)) + 1) (T rfl rfl) C (wr_i64 (by omega) (by omega))) ?_
                   refine lw_v (.int .i64 (((k : Int)) + 1)) (dv_assign (T rfl rfl)) ?_
                   refine lw_nil ?_
                   exact ih143 ((Q i).es.length - ((k + 1))) _ _ (by rw [hd176]; omega) ⟨(k + 1), rfl, f146, f147, (vi (by omega)), f149, f150, f151, f152, f153, f154, f155, f156, f157, f158, f159, f160, f161, f162, f163, f164, f165, f166, f167, f168, f169, f170, f171, f172, f173, f174, E187, (by omega), (all_step hin ⟨(by first | assumption | exact Decidable.not_not.1 (by assumption)), fun h0_ => by first | omega | (exfalso; omega)⟩)⟩
               · refine aw_no 14 rfl (by kernel_rfl) (d := 74) rfl rfl (congrArg Value.bool (decide_eq_false hb190)) ⟨h188, (NR.rdA (i := i) h188 (by first | omega | (simp; done) | (simp; omega)) hAs13)⟩ ?_
                 refine aw_no 15 rfl (by kernel_rfl) (d := 74) rfl rfl (congrArg Value.bool (decide_eq_false hb190)) ⟨h188, (NR.rdA (i := i) h188 (by first | omega | (simp; done) | (simp; omega)) hAs13)⟩ ?_
                 refine aw_no 16 rfl (by kernel_rfl) (d := 74) rfl rfl (congrArg Value.bool (decide_eq_false hb190)) ⟨h188, (NR.rdA (i := i) h188 (by first | omega | (simp; done) | (simp; omega)) hAs13)⟩ ?_
                 refine aw_no 17 rfl (by kernel_rfl) (d := 74) rfl rfl (congrArg Value.bool (decide_eq_false hb190)) ⟨h188, (NR.rdA (i := i) h188 (by first | omega | (simp; done) | (simp; omega)) hAs13)⟩ ?_
                 refine aw_no 18 rfl (by kernel_rfl) (d := 74) rfl rfl (congrArg Value.bool (decide_eq_false hb190)) ⟨h188, (NR.rdA (i := i) h188 (by first | omega | (simp; done) | (simp; omega)) hAs13)⟩ ?_
                 refine aw_no 19 rfl (by kernel_rfl) (d := 74) rfl rfl (congrArg Value.bool (decide_eq_false hb190)) ⟨h188, (NR.rdA (i := i) h188 (by first | omega | (simp; done) | (simp; omega)) hAs13)⟩ ?_
                 refine aw_no 20 rfl (by kernel_rfl) (d := 74) rfl rfl (congrArg Value.bool (decide_eq_false hb190)) ⟨h188, (NR.rdA (i := i) h188 (by first | omega | (simp; done) | (simp; omega)) hAs13)⟩ ?_
                 refine aw_no 21 rfl (by kernel_rfl) (d := 74) rfl rfl (congrArg Value.bool (decide_eq_false hb190)) ⟨h188, (NR.rdA (i := i) h188 (by first | omega | (simp; done) | (simp; omega)) hAs13)⟩ ?_
                 refine aw_no 22 rfl (by kernel_rfl) (d := 74) rfl rfl (congrArg Value.bool (decide_eq_false hb190)) ⟨h188, (NR.rdA (i := i) h188 (by first | omega | (simp; done) | (simp; omega)) hAs13)⟩ ?_
                 refine aw_no 23 rfl (by kernel_rfl) (d := 74) rfl rfl (congrArg Value.bool (decide_eq_false hb190)) ⟨h188, (NR.rdA (i := i) h188 (by first | omega | (simp; done) | (simp; omega)) hAs13)⟩ ?_
                 refine aw_no 24 rfl (by kernel_rfl) (d := 74) rfl rfl (congrArg Value.bool (decide_eq_false hb190)) ⟨h188, (NR.rdA (i := i) h188 (by first | omega | (simp; done) | (simp; omega)) hAs13)⟩ ?_
                 refine aw_no 25 rfl (by kernel_rfl) (d := 74) rfl rfl (congrArg Value.bool (decide_eq_false hb190)) ⟨h188, (NR.rdA (i := i) h188 (by first | omega | (simp; done) | (simp; omega)) hAs13)⟩ ?_
                 refine aw_no 26 rfl (by kernel_rfl) (d := 74) rfl rfl (congrArg Value.bool (decide_eq_false hb190)) ⟨h188, (NR.rdA (i := i) h188 (by first | omega | (simp; done) | (simp; omega)) hAs13)⟩ ?_
                 refine aw_no 27 rfl (by kernel_rfl) (d := 74) rfl rfl (congrArg Value.bool (decide_eq_false hb190)) ⟨h188, (NR.rdA (i := i) h188 (by first | omega | (simp; done) | (simp; omega)) hAs13)⟩ ?_
                 refine aw_no 28 rfl (by kernel_rfl) (d := 74) rfl rfl (congrArg Value.bool (decide_eq_false hb190)) ⟨h188, (NR.rdA (i := i) h188 (by first | omega | (simp; done) | (simp; omega)) hAs13)⟩ ?_
                 refine aw_no 29 rfl (by kernel_rfl) (d := 74) rfl rfl (congrArg Value.bool (decide_eq_false hb190)) ⟨h188, (NR.rdA (i := i) h188 (by first | omega | (simp; done) | (simp; omega)) hAs13)⟩ ?_
                 refine aw_no 30 rfl (by kernel_rfl) (d := 74) rfl rfl (congrArg Value.bool (decide_eq_false hb190)) ⟨h188, (NR.rdA (i := i) h188 (by first | omega | (simp; done) | (simp; omega)) hAs13)⟩ ?_
                 refine aw_no 31 rfl (by kernel_rfl) (d := 74) rfl rfl (congrArg Value.bool (decide_eq_false hb190)) ⟨h188, (NR.rdA (i := i) h188 (by first | omega | (simp; done) | (simp; omega)) hAs13)⟩ ?_
                 refine aw_pure 32 (.bool false) rfl (by kernel_rfl) (.yes (d := 71) rfl rfl (congrArg Value.bool (decide_eq_false (not_not_intro hb189)))) ⟨h188, (NR.rdA (i := i) h188 (by first | omega | (simp; done) | (simp; omega)) hAs13)⟩ (fun _ => dv_pick_f (T rfl (congrArg Value.bool (decide_eq_false hb190))) C) ?_
                 refine aw_pure 33 (.bool false) rfl (by kernel_rfl) .none ⟨h188, (NR.rdA (i := i) h188 (by first | omega | (simp; done) | (simp; omega)) hAs13)⟩ (fun _ => dv_pick_f (T rfl (congrArg Value.bool (decide_eq_false (not_not_intro hb189)))) (T rfl rfl)) ?_
                 refine aw_done (by kernel_rfl) ?_
                 refine rk_cf (T rfl rfl) ?_
                 refine rk_skip ?_
                 refine rk_inBlock ?_
                 refine rk_reg ?_
                 refine lw_v (.int .i64 ((k : Int))) (dv_move (T rfl f148)) ?_
                 refine lw_v (.int .i64 (((k : Int)) + 1)) (dv_add (a := (k : Int)) (b := 1) (z := ((k : Int)) + 1) (T rfl rfl) C (wr_i64 (by omega) (by omega))) ?_
                 refine lw_v (.int .i64 (((k : Int)) + 1)) (dv_assign (T rfl rfl)) ?_
                 refine lw_nil ?_
                 exact ih143 ((Q i).es.length - ((k + 1))) _ _ (by rw [hd176]; omega) ⟨(k + 1), rfl, f146, f147, (vi (by omega)), f149, f150, f151, f152, f153, f154, f155, f156, f157, f158, f159, f160, f161, f162, f163, f164, f165, f166, f167, f168, f169, f170, f171, f172, f173, f174, E187, (by omega), (all_step hin ⟨(by first | assumption | exact Decidable.not_not.1 (by assumption)), fun h0_ => by first | omega | (exfalso; omega)⟩)⟩
             · refine aw_no 11 rfl (by kernel_rfl) (d := 71) rfl rfl (congrArg Value.bool (decide_eq_true hb189)) ⟨h188, (NR.rdA (i := i) h188 (by first | omega | (simp; done) | (simp; omega)) hAs13)⟩ ?_
               refine aw_no 12 rfl (by kernel_rfl) (d := 71) rfl rfl (congrArg Value.bool (decide_eq_true hb189)) ⟨h188, (NR.rdA (i := i) h188 (by first | omega | (simp; done) | (simp; omega)) hAs13)⟩ ?_
               refine aw_no 13 rfl (by kernel_rfl) (d := 71) rfl rfl (congrArg Value.bool (decide_eq_true hb189)) ⟨h188, (NR.rdA (i := i) h188 (by first | omega | (simp; done) | (simp; omega)) hAs13)⟩ ?_
               refine aw_nou 14 rfl (by kernel_rfl) (d := 74) rfl rfl ⟨h188, (NR.rdA (i := i) h188 (by first | omega | (simp; done) | (simp; omega)) hAs13)⟩ ?_
               refine aw_nou 15 rfl (by kernel_rfl) (d := 74) rfl rfl ⟨h188, (NR.rdA (i := i) h188 (by first | omega | (simp; done) | (simp; omega)) hAs13)⟩ ?_
               refine aw_nou 16 rfl (by kernel_rfl) (d := 74) rfl rfl ⟨h188, (NR.rdA (i := i) h188 (by first | omega | (simp; done) | (simp; omega)) hAs13)⟩ ?_
               refine aw_nou 17 rfl (by kernel_rfl) (d := 74) rfl rfl ⟨h188, (NR.rdA (i := i) h188 (by first | omega | (simp; done) | (simp; omega)) hAs13)⟩ ?_
               refine aw_nou 18 rfl (by kernel_rfl) (d := 74) rfl rfl ⟨h188, (NR.rdA (i := i) h188 (by first | omega | (simp; done) | (simp; omega)) hAs13)⟩ ?_
               refine aw_nou 19 rfl (by kernel_rfl) (d := 74) rfl rfl ⟨h188, (NR.rdA (i := i) h188 (by first | omega | (simp; done) | (simp; omega)) hAs13)⟩ ?_
               refine aw_nou 20 rfl (by kernel_rfl) (d := 74) rfl rfl ⟨h188, (NR.rdA (i := i) h188 (by first | omega | (simp; done) | (simp; omega)) hAs13)⟩ ?_
               refine aw_nou 21 rfl (by kernel_rfl) (d := 74) rfl rfl ⟨h188, (NR.rdA (i := i) h188 (by first | omega | (simp; done) | (simp; omega)) hAs13)⟩ ?_
               refine aw_nou 22 rfl (by kernel_rfl) (d := 74) rfl rfl ⟨h188, (NR.rdA (i := i) h188 (by first | omega | (simp; done) | (simp; omega)) hAs13)⟩ ?_
               refine aw_nou 23 rfl (by kernel_rfl) (d := 74) rfl rfl ⟨h188, (NR.rdA (i := i) h188 (by first | omega | (simp; done) | (simp; omega)) hAs13)⟩ ?_
               refine aw_nou 24 rfl (by kernel_rfl) (d := 74) rfl rfl ⟨h188, (NR.rdA (i := i) h188 (by first | omega | (simp; done) | (simp; omega)) hAs13)⟩ ?_
               refine aw_nou 25 rfl (by kernel_rfl) (d := 74) rfl rfl ⟨h188, (NR.rdA (i := i) h188 (by first | omega | (simp; done) | (simp; omega)) hAs13)⟩ ?_
               refine aw_nou 26 rfl (by kernel_rfl) (d := 74) rfl rfl ⟨h188, (NR.rdA (i := i) h188 (by first | omega | (simp; done) | (simp; omega)) hAs13)⟩ ?_
               refine aw_nou 27 rfl (by kernel_rfl) (d := 74) rfl rfl ⟨h188, (NR.rdA (i := i) h188 (by first | omega | (simp; done) | (simp; omega)) hAs13)⟩ ?_
               refine aw_nou 28 rfl (by kernel_rfl) (d := 74) rfl rfl ⟨h188, (NR.rdA (i := i) h188 (by first | omega | (simp; done) | (simp; omega)) hAs13)⟩ ?_
               refine aw_nou 29 rfl (by kernel_rfl) (d := 74) rfl rfl ⟨h188, (NR.rdA (i := i) h188 (by first | omega | (simp; done) | (simp; omega)) hAs13)⟩ ?_
               refine aw_nou 30 rfl (by kernel_rfl) (d := 74) rfl rfl ⟨h188, (NR.rdA (i := i) h188 (by first | omega | (simp; done) | (simp; omega)) hAs13)⟩ ?_
               refine aw_nou 31 rfl (by kernel_rfl) (d := 74) rfl rfl ⟨h188, (NR.rdA (i := i) h188 (by first | omega | (simp; done) | (simp; omega)) hAs13)⟩ ?_
               refine aw_no 32 rfl (by kernel_rfl) (d := 71) rfl rfl (congrArg Value.bool (decide_eq_true hb189)) ⟨h188, (NR.rdA (i := i) h188 (by first | omega | (simp; done) | (simp; omega)) hAs13)⟩ ?_
               refine aw_pure 33 (.bool true) rfl (by kernel_rfl) .none ⟨h188, (NR.rdA (i := i) h188 (by first | omega | (simp; done) | (simp; omega)) hAs13)⟩ (fun _ => dv_pick_t (T rfl (congrArg Value.bool (decide_eq_true hb189))) C) ?_
               refine aw_done (by kernel_rfl) ?_
               refine rk_ct (T rfl rfl) ?_
               refine rk_seq ?_
               refine rk_reg ?_
               refine lw_v (.bool false) (dv_assign C) ?_
               refine lw_nil ?_
               refine rk_ret Try.func16 (v := .bool false) (res1 Try.results16 (rv_tmp rfl rfl)) ⟨_, rfl, ?_⟩
               exact ⟨(vf (fun hh_ => by have hh := (hh_.2 i (by omega)).2.2.1 k (by omega); first | exact absurd hh.1 (by assumption) | (have h2_ := hh.2 (by omega); omega) | (have h1_ := hh.1; omega))), E187⟩
           · refine rk_cf (T rfl (congrArg Value.bool (decide_eq_false hb178))) ?_
             refine rk_exit rfl ?_
             refine rk_inBlock ?_
             refine rk_reg ?_
             refine lw_v (.int .i64 ((i : Int))) (dv_move (T rfl f147)) ?_
             refine lw_v (.int .i64 (((i : Int)) + 1)) (dv_add (a := (i : Int)) (b := 1) (z := ((i : Int)) + 1) (T rfl rfl) C (wr_i64 (by omega) (by omega))) ?_
             refine lw_v (.int .i64 (((i : Int)) + 1)) (dv_assign (T rfl rfl)) ?_
             refine lw_nil ?_
             exact ih4 (l - ((i + 1))) _ _ (by rw [hd10]; omega) ⟨(i + 1), rfl, f146, (vi (by omega)), E175, (by omega), (all_step hall ⟨(by first | assumption | exact Decidable.not_not.1 (by assumption)), by omega, (fun k hk => hin k (by omega)), fun h0_ => by first | omega | (exfalso; omega)⟩)⟩
     · refine aw_no 8 rfl (by kernel_rfl) (d := 21) rfl rfl (congrArg Value.bool (decide_eq_true hb26)) h25 ?_
       refine aw_no 9 rfl (by kernel_rfl) (d := 21) rfl rfl (congrArg Value.bool (decide_eq_true hb26)) h25 ?_
       refine aw_no 10 rfl (by kernel_rfl) (d := 21) rfl rfl (congrArg Value.bool (decide_eq_true hb26)) h25 ?_
       refine aw_no 11 rfl (by kernel_rfl) (d := 21) rfl rfl (congrArg Value.bool (decide_eq_true hb26)) h25 ?_
       refine aw_no 12 rfl (by kernel_rfl) (d := 21) rfl rfl (congrArg Value.bool (decide_eq_true hb26)) h25 ?_
       refine aw_no 13 rfl (by kernel_rfl) (d := 21) rfl rfl (congrArg Value.bool (decide_eq_true hb26)) h25 ?_
       refine aw_no 14 rfl (by kernel_rfl) (d := 21) rfl rfl (congrArg Value.bool (decide_eq_true hb26)) h25 ?_
       refine aw_pure 15 (.bool true) rfl (by kernel_rfl) .none h25 (fun _ => dv_pick_t (T rfl (congrArg Value.bool (decide_eq_true hb26))) C) ?_
       refine aw_pure 16 (.bool true) rfl (by kernel_rfl) .none h25 (fun _ => dv_move (T rfl rfl)) ?_
       refine aw_no 17 rfl (by kernel_rfl) (d := 30) rfl rfl (rfl) h25 ?_
       refine aw_no 18 rfl (by kernel_rfl) (d := 30) rfl rfl (rfl) h25 ?_
       refine aw_no 19 rfl (by kernel_rfl) (d := 30) rfl rfl (rfl) h25 ?_
       refine aw_nou 20 rfl (by kernel_rfl) (d := 33) rfl rfl h25 ?_
       refine aw_nou 21 rfl (by kernel_rfl) (d := 33) rfl rfl h25 ?_
       refine aw_nou 22 rfl (by kernel_rfl) (d := 33) rfl rfl h25 ?_
       refine aw_nou 23 rfl (by kernel_rfl) (d := 33) rfl rfl h25 ?_
       refine aw_nou 24 rfl (by kernel_rfl) (d := 33) rfl rfl h25 ?_
       refine aw_nou 25 rfl (by kernel_rfl) (d := 33) rfl rfl h25 ?_
       refine aw_nou 26 rfl (by kernel_rfl) (d := 33) rfl rfl h25 ?_
       refine aw_nou 27 rfl (by kernel_rfl) (d := 33) rfl rfl h25 ?_
       refine aw_nou 28 rfl (by kernel_rfl) (d := 33) rfl rfl h25 ?_
       refine aw_nou 29 rfl (by kernel_rfl) (d := 33) rfl rfl h25 ?_
       refine aw_nou 30 rfl (by kernel_rfl) (d := 33) rfl rfl h25 ?_
       refine aw_nou 31 rfl (by kernel_rfl) (d := 33) rfl rfl h25 ?_
       refine aw_nou 32 rfl (by kernel_rfl) (d := 33) rfl rfl h25 ?_
       refine aw_nou 33 rfl (by kernel_rfl) (d := 33) rfl rfl h25 ?_
       refine aw_nou 34 rfl (by kernel_rfl) (d := 33) rfl rfl h25 ?_
       refine aw_no 35 rfl (by kernel_rfl) (d := 30) rfl rfl (rfl) h25 ?_
       refine aw_pure 36 (.bool true) rfl (by kernel_rfl) .none h25 (fun _ => dv_pick_t (T rfl rfl) C) ?_
       refine aw_done (by kernel_rfl) ?_
       refine rk_ct (T rfl rfl) ?_
       refine rk_seq ?_
       refine rk_reg ?_
       refine lw_v (.bool false) (dv_assign C) ?_
       refine lw_nil ?_
       refine rk_ret Try.func16 (v := .bool false) (res1 Try.results16 (rv_tmp rfl rfl)) ⟨_, rfl, ?_⟩
       exact ⟨(vf (fun hh_ => by have hh := hh_.2 i (by omega); first | exact absurd hh.1 (by assumption) | exact absurd hh.2.2.1 (by assumption) | (have h2_ := hh.2.1; omega) | (have h2_ := hh.2.2.2 (by omega); omega))), E24⟩
   · refine rk_cf (T rfl (congrArg Value.bool (decide_eq_false hb15))) ?_
     refine rk_exit rfl ?_
     refine rk_seq ?_
     refine rk_reg ?_
     refine lw_v (.bool true) (dv_assign C) ?_
     refine lw_nil ?_
     refine rk_ret Try.func16 (v := .bool true) (res1 Try.results16 (rv_tmp rfl rfl)) ⟨_, rfl, ?_⟩
     exact ⟨(vt ⟨by omega, fun k hk => hall k (by omega)⟩), E9⟩
end Go.Proofs.Ytmbpomcbdopgnaa.W
set_option linter.unusedVariables false
set_option linter.unusedSimpArgs false
namespace Go.Proofs.Ytmbpomcbdopgnaa.W
open Go Go.RowKit Go.Proofs.Ytmbpomcbdopgnaa.Fw
attribute [local irreducible] RunK LW AW DV OE Ct
theorem co15 : callOk Try.prog 15 = true := by kernel_rfl
theorem co16 : callOk Try.prog 16 = true := by kernel_rfl
theorem co17 : callOk Try.prog 17 = true := by kernel_rfl
theorem co18 : callOk Try.prog 18 = true := by kernel_rfl
theorem co19 : callOk Try.prog 19 = true := by kernel_rfl
theorem co35 : callOk Try.prog 35 = true := by kernel_rfl
theorem co36 : callOk Try.prog 36 = true := by kernel_rfl
set_option maxHeartbeats 1000000 in
theorem markInt64S_ok {w : World} {A : Option Addr} {n c base : Nat} {L : List Int} {k : Int} (hO : Ow w base 2 .i64 A c L) (hl : L.length = n) (hN : n ≤ 1048576) (hk : 0 ≤ k ∧ k ≤ 1152921504606846976) : Ct Try.prog 35 [.slice A n c, .int .i64 k] w fun v w1 => v = .int .i64 (k + (n : Int)) ∧ Sb A w w1 ∧ Ow w1 base 2 .i64 A c (mkL k n) := by
 refine ct_run (n := 19) Try.func35 rfl Try.ntmps35 rfl ?_
 have E0 : Below base w w := Below.refl _ _
 have hb0 := hO.2
 refine rk_seq ?_
 refine rk_reg ?_
 refine lw_v (.int .i64 0) (dv_assign C) ?_
 refine lw_nil ?_
 refine rk_seq ?_
 refine rk_seq ?_
 refine rk_reg ?_
 refine lw_v (.int .i64 0) (dv_assign C) ?_
 refine lw_nil ?_
 refine rk_block ?_
 refine rk_loop (fun dm_ fr wl => ∃ (i : Nat) (M : List Int), dm_ = n - i ∧ fr 0 = .slice A n c ∧ fr 1 = .int .i64 (k + (i : Int)) ∧ fr 4 = .int .i64 0 ∧ fr 5 = .int .i64 ((i : Int)) ∧ Below base w wl ∧ Ow wl base 2 .i64 A c M ∧ (i ≤ n) ∧ (M.length = n) ∧ (M.take i = (mkL k n).take i) ∧ (Sb A w wl)) (n - 0) ⟨0, L, rfl, rfl, (vi (by omega)), rfl, (vi (by omega)), E0, hO, (Nat.zero_le _), hl, (by simp), (Sb.refl _ _)⟩ ?_
 intro d5 fr4 w1 hI2 ih3
 obtain ⟨i, M, hd12, f6, f7, f8, f9, E10, h11, hi, hM, hmk, hSb⟩ := hI2
 refine rk_seq ?_
 refine rk_seq ?_
 refine rk_reg ?_
 refine lw_v (.int .i64 ((i : Int))) (dv_move (T rfl f9)) ?_
 refine lw_v (.slice A n c) (dv_move (T rfl f6)) ?_
 refine lw_v (.int .i64 ((n : Int))) (dv_len (ad := A) (l := n) (c := c) us50 (T rfl rfl)) ?_
 refine lw_v (.bool (decide (((i : Int)) < ((n : Int))))) (dv_lss (a := (i : Int)) (b := (n : Int)) (T rfl rfl) (T rfl rfl)) ?_
 refine lw_nil ?_
 by_cases hb13 : ((i : Int)) < ((n : Int))
 · refine rk_ct (T rfl (congrArg Value.bool (decide_eq_true hb13))) ?_
   refine rk_skip ?_
   refine rk_seq ?_
   refine rk_block ?_
   refine rk_seq ?_
   refine rk_reg ?_
   refine lw_v (.slice A n c) (dv_move (T rfl f6)) ?_
   refine lw_v (.int .i64 ((i : Int))) (dv_move (T rfl f9)) ?_
   refine lw_v (.int .i64 (k + (i : Int))) (dv_move (T rfl f7)) ?_
   obtain ⟨g14, o15, rfl⟩ := Wd.at h11.wd (by first | omega | (simp; done) | (simp; omega))
   refine lw_v (.pointer (some ⟨g14, o15 + i, none⟩)) (dv_indexW (g := g14) (o := o15) (l := n) (c := c) (i := i) (j := (i : Int)) us50 sz2 (T rfl rfl) (T rfl rfl) (by omega) (by first | omega | (simp; done) | (simp; omega))) ?_
   refine lw_e (oe_storeOwS (base := base) (L := M) (g := g14) (o := o15) (i := i) (z := k + (i : Int)) sz2 (T rfl rfl) (T rfl rfl) h11 (by first | omega | (simp; done) | (simp; omega)) ?_)
   intro w16 hO17 x18 hs19
   have E20 := below_bl E10 (Nat.le_refl _) x18
   refine lw_nil ?_
   refine rk_reg ?_
   refine lw_v (.int .i64 (k + (i : Int))) (dv_move (T rfl f7)) ?_
   refine lw_v (.int .i64 ((k + (i : Int)) + 1)) (dv_add (a := k + (i : Int)) (b := 1) (z := (k + (i : Int)) + 1) (T rfl rfl) C (wr_i64 (by omega) (by omega))) ?_
   refine lw_v (.int .i64 ((k + (i : Int)) + 1)) (dv_assign (T rfl rfl)) ?_
   refine lw_nil ?_
   refine rk_inBlock ?_
   refine rk_reg ?_
   refine lw_v (.int .i64 ((i : Int))) (dv_move (T rfl f9)) ?_
   refine lw_v (.int .i64 (((i : Int)) + 1)) (dv_add (a := (i : Int)) (b := 1) (z := ((i : Int)) + 1) (T rfl rfl) C (wr_i64 (by omega) (by omega))) ?_
   refine lw_v (.int .i64 (((i : Int)) + 1)) (dv_assign (T rfl rfl)) ?_
   refine lw_nil ?_
   exact ih3 (n - ((i + 1))) _ _ (by rw [hd12]; omega) ⟨(i + 1), (M.set i (k + (i : Int))), rfl, f6, (vi (by omega)), f8, (vi (by omega)), E20, hO17, (by omega), (by simp [hM]), (mkL_step hmk hM (by omega)), (hSb.st hs19)⟩
 · refine rk_cf (T rfl (congrArg Value.bool (decide_eq_false hb13))) ?_
   refine rk_exit rfl ?_
   refine rk_seq ?_
   refine rk_reg ?_
   refine lw_v (.int .i64 (k + (i : Int))) (dv_move (T rfl f7)) ?_
   refine lw_v (.int .i64 (k + (i : Int))) (dv_assign (T rfl rfl)) ?_
   refine lw_nil ?_
   refine rk_ret Try.func35 (v := .int .i64 (k + (i : Int))) (res1 Try.results35 (rv_tmp rfl rfl)) ⟨_, rfl, ?_⟩
   have hz : M = mkL k n := take_all hmk (by omega) (by rw [mkL_len]; omega)
   exact ⟨vi (by omega), hSb, by rw [← hz]; exact h11⟩
theorem markInner_ok {w : World} {lo hi : Nat} {x k : Int} {A Bi : Option Addr} {l c i n ci : Nat} {W : Nat → Nat → Int} {E : Nat → List Int} {SL : SlF} (hN : NO w lo hi x 52 2 A l c W E SL) (hi' : i < l) (hB : Bi = (SL i).1) (hc : ci = (SL i).2) (hn : n = (E i).length) (hb : n ≤ 1048576) (hk : 0 ≤ k ∧ k ≤ 1152921504606846976) :
 Ct Try.prog 35 [.slice Bi n ci, .int .i64 k] w fun v w1 => v = .int .i64 (k + (n : Int)) ∧ Mid lo hi x w w1 ∧ NO w1 lo hi x 52 2 A l c W (updA E i (mkL k n)) SL := by
 subst hB; subst hc; subst hn
 have h_ := markInt64S_ok (hN.ow hi') rfl hb hk
 unfold Ct at h_ ⊢
 refine Calls.mono h_ fun e w' ⟨v, he, hv, hS, hO⟩ => ⟨v, he, hv, ?_⟩
 exact hN.marked (by decide) hi' hS hO (mkL_len _ _)
theorem markOw_ok {w : World} {base X n c : Nat} {k : Int} {A : Option Addr} {L : List Int} (hO : Ow w base 2 .i64 A c L) (hl : L.length = n) (hX : ∀ b o, A = some ⟨b, o, none⟩ → b = X) (hb : n ≤ 1048576) (hk : 0 ≤ k ∧ k ≤ 1152921504606846976) :
 Ct Try.prog 35 [.slice A n c, .int .i64 k] w fun v w1 => v = .int .i64 (k + (n : Int)) ∧ Mid X (X + 1) (-1) w w1 ∧ Ow w1 base 2 .i64 A c (mkL k n) := by
 have h_ := markInt64S_ok hO hl hb hk
 unfold Ct at h_ ⊢
 exact Calls.mono h_ fun e w' ⟨v, he, hv, hS, hO⟩ => ⟨v, he, hv, hS.mid hX, hO⟩
set_option maxRecDepth 100000 in
set_option maxHeartbeats 8000000 in
theorem markEventS_ok {w : World} {lo hi : Nat} {x k0 : Int} {A : Option Addr} {l c cc : Nat} {W : Nat → Nat → Int} {E : Nat → List Int} {SL : SlF} (hN : NO w lo hi x 52 2 A l c W E SL) (hEl : ∀ i, i < l → (E i).length ≤ 1048576) (hl : l ≤ 1048576) (hk : 0 ≤ k0 ∧ k0 ≤ 1073741824) : Ct Try.prog 23 [.slice A l cc, .int .i64 k0] w fun v w1 => ∃ W' E', v = .int .i64 (kAt k0 E l) ∧ Mid lo hi x w w1 ∧ NO w1 lo hi x 52 2 A l c W' E' SL ∧ (∀ q, (E' q).length = (E q).length) ∧ mkd k0 E l W' E' := by
 refine ct_run (n := 140) Try.func23 rfl Try.ntmps23 rfl ?_
 have E0 : Below lo w w := Below.refl _ _
 have hb0 := Nat.le_trans hN.lh.1 hN.lh.2; have hlc_ := hN.lc
 refine rk_seq ?_
 refine rk_reg ?_
 refine lw_v (.int .i64 0) (dv_assign C) ?_
 refine lw_nil ?_
 refine rk_seq ?_
 refine rk_seq ?_
 refine rk_reg ?_
 refine lw_v (.int .i64 0) (dv_assign C) ?_
 refine lw_nil ?_
 refine rk_block ?_
 refine rk_loop (fun dm_ fr wl => ∃ (i : Nat) (kk : Int) (W' : Nat → Nat → Int) (E' : Nat → List Int), dm_ = l - i ∧ fr 0 = .slice A l cc ∧ fr 1 = .int .i64 kk ∧ fr 4 = .int .i64 0 ∧ fr 5 = .int .i64 ((i : Int)) ∧ Below lo w wl ∧ NO wl lo hi x 52 2 A l c W' E' SL ∧ (i ≤ l) ∧ (kk = kAt k0 E i) ∧ (∀ q, (E' q).length = (E q).length) ∧ (mkd k0 E i W' E') ∧ (Mid lo hi x w wl)) (l - 0) ⟨0, k0, W, E, rfl, rfl, (rfl), rfl, (vi (by omega)), E0, hN, (Nat.zero_le _), rfl, (fun _ => rfl), (mkd_0 _ _ _ _), (Mid.refl _ _ _ _)⟩ ?_
 intro d5 fr4 w1 hI2 ih3
 obtain ⟨i, kk, W', E', hd12, f6, f7, f8, f9, E10, h11, hi_, hkk, hlen, hmd, hMid⟩ := hI2
 obtain ⟨As13, hAs15⟩ : ∃ q_ : Option Addr, q_ = (SL i).1 := ⟨_, rfl⟩
 obtain ⟨cs14, hcs16⟩ : ∃ q_ : Nat, q_ = (SL i).2 := ⟨_, rfl⟩
 have hk1 := kAt_ge k0 E i; have hk2 := kAt_le k0 hEl i hi_; have hen : i < l → (E i).length ≤ 1048576 := fun h_ => hEl i h_
 have hln := hlen i
 refine rk_seq ?_
 refine rk_seq ?_
 refine rk_reg ?_
 refine lw_v (.int .i64 ((i : Int))) (dv_move (T rfl f9)) ?_
 refine lw_v (.slice A l cc) (dv_move (T rfl f6)) ?_
 refine lw_v (.int .i64 ((l : Int))) (dv_len (ad := A) (l := l) (c := cc) us46 (T rfl rfl)) ?_
 refine lw_v (.bool (decide (((i : Int)) < ((l : Int))))) (dv_lss (a := (i : Int)) (b := (l : Int)) (T rfl rfl) (T rfl rfl)) ?_
 refine lw_nil ?_
 by_cases hb17 : ((i : Int)) < ((l : Int))
 · refine rk_ct (T rfl (congrArg Value.bool (decide_eq_true hb17))) ?_
   refine rk_skip ?_
   refine rk_seq ?_
   refine rk_block ?_
   refine rk_seq ?_
   refine rk_reg ?_
   refine lw_v (.slice A l cc) (dv_move (T rfl f6)) ?_
   refine lw_v (.int .i64 ((i : Int))) (dv_move (T rfl f9)) ?_
   refine lw_v (.int .i64 kk) (dv_move (T rfl f7)) ?_
   refine lw_v (.int .u64 kk) (dv_conv (a := kk) (z := kk) ui3 ui36 (T rfl rfl) (wn_u64 (by omega) (by omega))) ?_
   obtain ⟨g18, o19, rfl⟩ := NO.at h11 (by first | omega | (simp; done) | (simp; omega))
   refine lw_v (.pointer (some ⟨g18, o19 + i * 13, none⟩)) (dv_indexM (g := g18) (o := o19) (l := l) (c := cc) (i := i) (j := (i : Int)) (m := 13) us46 sz52 (T rfl rfl) (T rfl rfl) (by omega) (by first | omega | (simp; done) | (simp; omega))) ?_
   refine lw_v (.pointer (some ⟨g18, o19 + (i * 13), none⟩)) (dv_fieldW (g := g18) (o := o19) (i := i * 13) fo52_0 (T rfl rfl)) ?_
   refine lw_v (.pointer (some ⟨g18, o19 + (i * 13), none⟩)) (dv_fieldW (g := g18) (o := o19) (i := i * 13) fo40_0 (T rfl rfl)) ?_
   refine lw_v (.pointer (some ⟨g18, o19 + (i * 13), none⟩)) (dv_fieldW (g := g18) (o := o19) (i := i * 13) fo38_0 (T rfl rfl)) ?_
   refine lw_e (oe_storeWd (lo := lo) (hi := hi) (x := x) (l := l) (g := g18) (o := o19) (i := i) (j := 0) (z := kk) sz36 (T rfl rfl) (T rfl rfl) h11 (by decide) (by first | omega | (simp; done) | (simp; omega)) (by decide) ?_)
   intro w20 hN21 x22
   have E23 := below_mid E10 (Nat.le_refl _) (Nat.le_trans hb0 E10.size) x22
   refine lw_nil ?_
   refine rk_seq ?_
   refine rk_reg ?_
   refine lw_v (.int .i64 kk) (dv_move (T rfl f7)) ?_
   refine lw_v (.int .i64 (kk + 1)) (dv_add (a := kk) (b := 1) (z := kk + 1) (T rfl rfl) C (wr_i64 (by omega) (by omega))) ?_
   refine lw_v (.int .i64 (kk + 1)) (dv_assign (T rfl rfl)) ?_
   refine lw_nil ?_
   refine rk_seq ?_
   refine rk_reg ?_
   refine lw_v (.slice (some ⟨g18, o19, none⟩) l cc) (dv_move (T rfl f6)) ?_
   refine lw_v (.int .i64 ((i : Int))) (dv_move (T rfl f9)) ?_
   refine lw_v (.int .i64 (kk + 1)) (dv_move (T rfl rfl)) ?_
   refine lw_v (.int .u64 (kk + 1)) (dv_conv (a := kk + 1) (z := kk + 1) ui3 ui36 (T rfl rfl) (wn_u64 (by omega) (by omega))) ?_
   refine lw_v (.pointer (some ⟨g18, o19 + i * 13, none⟩)) (dv_indexM (g := g18) (o := o19) (l := l) (c := cc) (i := i) (j := (i : Int)) (m := 13) us46 sz52 (T rfl rfl) (T rfl rfl) (by omega) (by first | omega | (simp; done) | (simp; omega))) ?_
   refine lw_v (.pointer (some ⟨g18, o19 + (i * 13), none⟩)) (dv_fieldW (g := g18) (o := o19) (i := i * 13) fo52_0 (T rfl rfl)) ?_
   refine lw_v (.pointer (some ⟨g18, o19 + (i * 13), none⟩)) (dv_fieldW (g := g18) (o := o19) (i := i * 13) fo40_0 (T rfl rfl)) ?_
   refine lw_v (.pointer (some ⟨g18, o19 + (i * 13 + 1), none⟩)) (dv_fieldW (g := g18) (o := o19) (i := i * 13) fo38_1 (T rfl rfl)) ?_
   refine lw_e (oe_storeWd (lo := lo) (hi := hi) (x := x) (l := l) (g := g18) (o := o19) (i := i) (j := 1) (z := kk + 1) sz36 (T rfl rfl) (T rfl rfl) hN21 (by decide) (by first | omega | (simp; done) | (simp; omega)) (by decide) ?_)
   intro w24 hN25 x26
   have E27 := below_mid E23 (Nat.le_refl _) (Nat.le_trans hb0 E23.size) x26
   refine lw_nil ?_
   refine rk_seq ?_
   refine rk_reg ?_
   refine lw_v (.int .i64 (kk + 1)) (dv_move (T rfl rfl)) ?_
   refine lw_v (.int .i64 ((kk + 1) + 1)) (dv_add (a := kk + 1) (b := 1) (z := (kk + 1) + 1) (T rfl rfl) C (wr_i64 (by omega) (by omega))) ?_
   refine lw_v (.int .i64 ((kk + 1) + 1)) (dv_assign (T rfl rfl)) ?_
   refine lw_nil ?_
   refine rk_seq ?_
   refine rk_reg ?_
   refine lw_v (.slice (some ⟨g18, o19, none⟩) l cc) (dv_move (T rfl f6)) ?_
   refine lw_v (.int .i64 ((i : Int))) (dv_move (T rfl f9)) ?_
   refine lw_v (.int .i64 ((kk + 1) + 1)) (dv_move (T rfl rfl)) ?_
   refine lw_v (.int .u64 ((kk + 1) + 1)) (dv_conv (a := (kk + 1) + 1) (z := (kk + 1) + 1) ui3 ui36 (T rfl rfl) (wn_u64 (by omega) (by omega))) ?_
   refine lw_v (.pointer (some ⟨g18, o19 + i * 13, none⟩)) (dv_indexM (g := g18) (o := o19) (l := l) (c := cc) (i := i) (j := (i : Int)) (m := 13) us46 sz52 (T rfl rfl) (T rfl rfl) (by omega) (by first | omega | (simp; done) | (simp; omega))) ?_
   refine lw_v (.pointer (some ⟨g18, o19 + (i * 13), none⟩)) (dv_fieldW (g := g18) (o := o19) (i := i * 13) fo52_0 (T rfl rfl)) ?_
   refine lw_v (.pointer (some ⟨g18, o19 + (i * 13), none⟩)) (dv_fieldW (g := g18) (o := o19) (i := i * 13) fo40_0 (T rfl rfl)) ?_
   refine lw_v (.pointer (some ⟨g18, o19 + (i * 13 + 2), none⟩)) (dv_fieldW (g := g18) (o := o19) (i := i * 13) fo38_2 (T rfl rfl)) ?_
   refine lw_e (oe_storeWd (lo := lo) (hi := hi) (x := x) (l := l) (g := g18) (o := o19) (i := i) (j := 2) (z := (kk + 1) + 1) sz36 (T rfl rfl) (T rfl rfl) hN25 (by decide) (by first | omega | (simp; done) | (simp; omega)) (by decide) ?_)
   intro w28 hN29 x30
   have E31 := below_mid E27 (Nat.le_refl _) (Nat.le_trans hb0 E27.size) x30
   refine lw_nil ?_
   refine rk_seq ?_
   refine rk_reg ?_
   refine lw_v (.int .i64 ((kk + 1) + 1)) (dv_move (T rfl rfl)) ?_
   refine lw_v (.int .i64 (((kk + 1) + 1) + 1)) (dv_add (a := (kk + 1) + 1) (b := 1) (z := ((kk + 1) + 1) + 1) (T rfl rfl) C (wr_i64 (by omega) (by omega))) ?_
   refine lw_v (.int .i64 (((kk + 1) + 1) + 1)) (dv_assign (T rfl rfl)) ?_
   refine lw_nil ?_
   refine rk_seq ?_
   refine rk_reg ?_
   refine lw_v (.slice (some ⟨g18, o19, none⟩) l cc) (dv_move (T rfl f6)) ?_
   refine lw_v (.int .i64 ((i : Int))) (dv_move (T rfl f9)) ?_
   refine lw_v (.int .i64 (((kk + 1) + 1) + 1)) (dv_move (T rfl rfl)) ?_
   refine lw_v (.int .u64 (((kk + 1) + 1) + 1)) (dv_conv (a := ((kk + 1) + 1) + 1) (z := ((kk + 1) + 1) + 1) ui3 ui36 (T rfl rfl) (wn_u64 (by omega) (by omega))) ?_
   refine lw_v (.pointer (some ⟨g18, o19 + i * 13, none⟩)) (dv_indexM (g := g18) (o := o19) (l := l) (c := cc) (i := i) (j := (i : Int)) (m := 13) us46 sz52 (T rfl rfl) (T rfl rfl) (by omega) (by first | omega | (simp; done) | (simp; omega))) ?_
   refine lw_v (.pointer (some ⟨g18, o19 + (i * 13), none⟩)) (dv_fieldW (g := g18) (o := o19) (i := i * 13) fo52_0 (T rfl rfl)) ?_
   refine lw_v (.pointer (some ⟨g18, o19 + (i * 13), none⟩)) (dv_fieldW (g := g18) (o := o19) (i := i * 13) fo40_0 (T rfl rfl)) ?_
   refine lw_v (.pointer (some ⟨g18, o19 + (i * 13 + 3), none⟩)) (dv_fieldW (g := g18) (o := o19) (i := i * 13) fo38_3 (T rfl rfl)) ?_
   refine lw_e (oe_storeWd (lo := lo) (hi := hi) (x := x) (l := l) (g := g18) (o := o19) (i := i) (j := 3) (z := ((kk + 1) + 1) + 1) sz36 (T rfl rfl) (T rfl rfl) hN29 (by decide) (by first | omega | (simp; done) | (simp; omega)) (by decide) ?_)
   intro w32 hN33 x34
   have E35 := below_mid E31 (Nat.le_refl _) (Nat.le_trans hb0 E31.size) x34
   refine lw_nil ?_
   refine rk_seq ?_
   refine rk_reg ?_
   refine lw_v (.int .i64 (((kk + 1) + 1) + 1)) (dv_move (T rfl rfl)) ?_
   refine lw_v (.int .i64 ((((kk + 1) + 1) + 1) + 1)) (dv_add (a := ((kk + 1) + 1) + 1) (b := 1) (z := (((kk + 1) + 1) + 1) + 1) (T rfl rfl) C (wr_i64 (by omega) (by omega))) ?_
   refine lw_v (.int .i64 ((((kk + 1) + 1) + 1) + 1)) (dv_assign (T rfl rfl)) ?_
   refine lw_nil ?_
   refine rk_seq ?_
   refine rk_reg ?_
   refine lw_v (.slice (some ⟨g18, o19, none⟩) l cc) (dv_move (T rfl f6)) ?_
   refine lw_v (.int .i64 ((i : Int))) (dv_move (T rfl f9)) ?_
   refine lw_v (.int .i64 ((((kk + 1) + 1) + 1) + 1)) (dv_move (T rfl rfl)) ?_
   refine lw_v (.int .u64 ((((kk + 1) + 1) + 1) + 1)) (dv_conv (a := (((kk + 1) + 1) + 1) + 1) (z := (((kk + 1) + 1) + 1) + 1) ui3 ui36 (T rfl rfl) (wn_u64 (by omega) (by omega))) ?_
   refine lw_v (.pointer (some ⟨g18, o19 + i * 13, none⟩)) (dv_indexM (g := g18) (o := o19) (l := l) (c := cc) (i := i) (j := (i : Int)) (m := 13) us46 sz52 (T rfl rfl) (T rfl rfl) (by omega) (by first | omega | (simp; done) | (simp; omega))) ?_
   refine lw_v (.pointer (some ⟨g18, o19 + (i * 13), none⟩)) (dv_fieldW (g := g18) (o := o19) (i := i * 13) fo52_0 (T rfl rfl)) ?_
   refine lw_v (.pointer (some ⟨g18, o19 + (i * 13 + 4), none⟩)) (dv_fieldW (g := g18) (o := o19) (i := i * 13) fo40_1 (T rfl rfl)) ?_
   refine lw_v (.pointer (some ⟨g18, o19 + (i * 13 + 4), none⟩)) (dv_fieldW (g := g18) (o := o19) (i := i * 13 + 4) fo38_0 (T rfl rfl)) ?_
   refine lw_e (oe_storeWd (lo := lo) (hi := hi) (x := x) (l := l) (g := g18) (o := o19) (i := i) (j := 4) (z := (((kk + 1) + 1) + 1) + 1) sz36 (T rfl rfl) (T rfl rfl) hN33 (by decide) (by first | omega | (simp; done) | (simp; omega)) (by decide) ?_)
   intro w36 hN37 x38
   have E39 := below_mid E35 (Nat.le_refl _) (Nat.le_trans hb0 E35.size) x38
   refine lw_nil ?_
   refine rk_seq ?_
   refine rk_reg ?_
   refine lw_v (.int .i64 ((((kk + 1) + 1) + 1) + 1)) (dv_move (T rfl rfl)) ?_
   refine lw_v (.int .i64 (((((kk + 1) + 1) + 1) + 1) + 1)) (dv_add (a := (((kk + 1) + 1) + 1) + 1) (b := 1) (z := ((((kk + 1) + 1) + 1) + 1) + 1) (T rfl rfl) C (wr_i64 (by omega) (by omega))) ?_
   refine lw_v (.int .i64 (((((kk + 1) + 1) + 1) + 1) + 1)) (dv_assign (T rfl rfl)) ?_
   refine lw_nil ?_
   refine rk_seq ?_
   refine rk_reg ?_
   refine lw_v (.slice (some ⟨g18, o19, none⟩) l cc) (dv_move (T rfl f6)) ?_
   refine lw_v (.int .i64 ((i : Int))) (dv_move (T rfl f9)) ?_
   refine lw_v (.int .i64 (((((kk + 1) + 1) + 1) + 1) + 1)) (dv_move (T rfl rfl)) ?_
   refine lw_v (.int .u64 (((((kk + 1) + 1) + 1) + 1) + 1)) (dv_conv (a := ((((kk + 1) + 1) + 1) + 1) + 1) (z := ((((kk + 1) + 1) + 1) + 1) + 1) ui3 ui36 (T rfl rfl) (wn_u64 (by omega) (by omega))) ?_
   refine lw_v (.pointer (some ⟨g18, o19 + i * 13, none⟩)) (dv_indexM (g := g18) (o := o19) (l := l) (c := cc) (i := i) (j := (i : Int)) (m := 13) us46 sz52 (T rfl rfl) (T rfl rfl) (by omega) (by first | omega | (simp; done) | (simp; omega))) ?_
   refine lw_v (.pointer (some ⟨g18, o19 + (i * 13), none⟩)) (dv_fieldW (g := g18) (o := o19) (i := i * 13) fo52_0 (T rfl rfl)) ?_
   refine lw_v (.pointer (some ⟨g18, o19 + (i * 13 + 4), none⟩)) (dv_fieldW (g := g18) (o := o19) (i := i * 13) fo40_1 (T rfl rfl)) ?_
   refine lw_v (.pointer (some ⟨g18, o19 + (i * 13 + 5), none⟩)) (dv_fieldW (g := g18) (o := o19) (i := i * 13 + 4) fo38_1 (T rfl rfl)) ?_
   refine lw_e (oe_storeWd (lo := lo) (hi := hi) (x := x) (l := l) (g := g18) (o := o19) (i := i) (j := 5) (z := ((((kk + 1) + 1) + 1) + 1) + 1) sz36 (T rfl rfl) (T rfl rfl) hN37 (by decide) (by first | omega | (simp; done) | (simp; omega)) (by decide) ?_)
   intro w40 hN41 x42
   have E43 := below_mid E39 (Nat.le_refl _) (Nat.le_trans hb0 E39.size) x42
   refine lw_nil ?_
   refine rk_seq ?_
   refine rk_reg ?_
   refine lw_v (.int .i64 (((((kk + 1) + 1) + 1) + 1) + 1)) (dv_move (T rfl rfl)) ?_
   refine lw_v (.int .i64 ((((((kk + 1) + 1) + 1) + 1) + 1) + 1)) (dv_add (a := ((((kk + 1) + 1) + 1) + 1) + 1) (b := 1) (z := (((((kk + 1) + 1) + 1) + 1) + 1) + 1) (T rfl rfl) C (wr_i64 (by omega) (by omega))) ?_
   refine lw_v (.int .i64 ((((((kk + 1) + 1) + 1) + 1) + 1) + 1)) (dv_assign (T rfl rfl)) ?_
   refine lw_nil ?_
   refine rk_seq ?_
   refine rk_reg ?_
   refine lw_v (.slice (some ⟨g18, o19, none⟩) l cc) (dv_move (T rfl f6)) ?_
   refine lw_v (.int .i64 ((i : Int))) (dv_move (T rfl f9)) ?_
   refine lw_v (.int .i64 ((((((kk + 1) + 1) + 1) + 1) + 1) + 1)) (dv_move (T rfl rfl)) ?_
   refine lw_v (.int .u64 ((((((kk + 1) + 1) + 1) + 1) + 1) + 1)) (dv_conv (a := (((((kk + 1) + 1) + 1) + 1) + 1) + 1) (z := (((((kk + 1) + 1) + 1) + 1) + 1) + 1) ui3 ui36 (T rfl rfl) (wn_u64 (by omega) (by omega))) ?_
   refine lw_v (.pointer (some ⟨g18, o19 + i * 13, none⟩)) (dv_indexM (g := g18) (o := o19) (l := l) (c := cc) (i := i) (j := (i : Int)) (m := 13) us46 sz52 (T rfl rfl) (T rfl rfl) (by omega) (by first | omega | (simp; done) | (simp; omega))) ?_
   refine lw_v (.pointer (some ⟨g18, o19 + (i * 13), none⟩)) (dv_fieldW (g := g18) (o := o19) (i := i * 13) fo52_0 (T rfl rfl)) ?_
   refine lw_v (.pointer (some ⟨g18, o19 + (i * 13 + 4), none⟩)) (dv_fieldW (g := g18) (o := o19) (i := i * 13) fo40_1 (T rfl rfl)) ?_
   refine lw_v (.pointer (some ⟨g18, o19 + (i * 13 + 6), none⟩)) (dv_fieldW (g := g18) (o := o19) (i := i * 13 + 4) fo38_2 (T rfl rfl)) ?_
   refine lw_e (oe_storeWd (lo := lo) (hi := hi) (x := x) (l := l) (g := g18) (o := o19) (i := i) (j := 6) (z := (((((kk + 1) + 1) + 1) + 1) + 1) + 1) sz36 (T rfl rfl) (T rfl rfl) hN41 (by decide) (by first | omega | (simp; done) | (simp; omega)) (by decide) ?_)
   intro w44 hN45 x46
   have E47 := below_mid E43 (Nat.le_refl _) (Nat.le_trans hb0 E43.size) x46
   refine lw_nil ?_
   refine rk_seq ?_
   refine rk_reg ?_
   refine lw_v (.int .i64 ((((((kk + 1) + 1) + 1) + 1) + 1) + 1)) (dv_move (T rfl rfl)) ?_
   refine lw_v (.int .i64 (((((((kk + 1) + 1) + 1) + 1) + 1) + 1) + 1)) (dv_add (a := (((((kk + 1) + 1) + 1) + 1) + 1) + 1) (b := 1) (z := ((((((kk + 1) + 1) + 1) + 1) + 1) + 1) + 1) (T rfl rfl) C (wr_i64 (by omega) (by omega))) ?_
   refine lw_v (.int .i64 (((((((kk + 1) + 1) + 1) + 1) + 1) + 1) + 1)) (dv_assign (T rfl rfl)) ?_
   refine lw_nil ?_
   refine rk_seq ?_
   refine rk_reg ?_
   refine lw_v (.slice (some ⟨g18, o19, none⟩) l cc) (dv_move (T rfl f6)) ?_
   refine lw_v (.int .i64 ((i : Int))) (dv_move (T rfl f9)) ?_
   refine lw_v (.int .i64 (((((((kk + 1) + 1) + 1) + 1) + 1) + 1) + 1)) (dv_move (T rfl rfl)) ?_
   refine lw_v (.int .u64 (((((((kk + 1) + 1) + 1) + 1) + 1) + 1) + 1)) (dv_conv (a := ((((((kk + 1) + 1) + 1) + 1) + 1) + 1) + 1) (z := ((((((kk + 1) + 1) + 1) + 1) + 1) + 1) + 1) ui3 ui36 (T rfl rfl) (wn_u64 (by omega) (by omega))) ?_
   refine lw_v (.pointer (some ⟨g18, o19 + i * 13, none⟩)) (dv_indexM (g := g18) (o := o19) (l := l) (c := cc) (i := i) (j := (i : Int)) (m := 13) us46 sz52 (T rfl rfl) (T rfl rfl) (by omega) (by first | omega | (simp; done) | (simp; omega))) ?_
   refine lw_v (.pointer (some ⟨g18, o19 + (i * 13), none⟩)) (dv_fieldW (g := g18) (o := o19) (i := i * 13) fo52_0 (T rfl rfl)) ?_
   refine lw_v (.pointer (some ⟨g18, o19 + (i * 13 + 4), none⟩)) (dv_fieldW (g := g18) (o := o19) (i := i * 13) fo40_1 (T rfl rfl)) ?_
   refine lw_v (.pointer (some ⟨g18, o19 + (i * 13 + 7), none⟩)) (dv_fieldW (g := g18) (o := o19) (i := i * 13 + 4) fo38_3 (T rfl rfl)) ?_
   refine lw_e (oe_storeWd (lo := lo) (hi := hi) (x := x) (l := l) (g := g18) (o := o19) (i := i) (j := 7) (z := ((((((kk + 1) + 1) + 1) + 1) + 1) + 1) + 1) sz36 (T rfl rfl) (T rfl rfl) hN45 (by decide) (by first | omega | (simp; done) | (simp; omega)) (by decide) ?_)
   intro w48 hN49 x50
   have E51 := below_mid E47 (Nat.le_refl _) (Nat.le_trans hb0 E47.size) x50
   refine lw_nil ?_
   refine rk_seq ?_
   refine rk_reg ?_
   refine lw_v (.int .i64 (((((((kk + 1) + 1) + 1) + 1) + 1) + 1) + 1)) (dv_move (T rfl rfl)) ?_
   refine lw_v (.int .i64 ((((((((kk + 1) + 1) + 1) + 1) + 1) + 1) + 1) + 1)) (dv_add (a := ((((((kk + 1) + 1) + 1) + 1) + 1) + 1) + 1) (b := 1) (z := (((((((kk + 1) + 1) + 1) + 1) + 1) + 1) + 1) + 1) (T rfl rfl) C (wr_i64 (by omega) (by omega))) ?_
   refine lw_v (.int .i64 ((((((((kk + 1) + 1) + 1) + 1) + 1) + 1) + 1) + 1)) (dv_assign (T rfl rfl)) ?_
   refine lw_nil ?_
   refine rk_seq ?_
   refine rk_reg ?_
   refine lw_v (.slice (some ⟨g18, o19, none⟩) l cc) (dv_move (T rfl f6)) ?_
   refine lw_v (.int .i64 ((i : Int))) (dv_move (T rfl f9)) ?_
   refine lw_v (.int .i64 ((((((((kk + 1) + 1) + 1) + 1) + 1) + 1) + 1) + 1)) (dv_move (T rfl rfl)) ?_
   refine lw_v (.int .u64 ((((((((kk + 1) + 1) + 1) + 1) + 1) + 1) + 1) + 1)) (dv_conv (a := (((((((kk + 1) + 1) + 1) + 1) + 1) + 1) + 1) + 1) (z := (((((((kk + 1) + 1) + 1) + 1) + 1) + 1) + 1) + 1) ui3 ui36 (T rfl rfl) (wn_u64 (by omega) (by omega))) ?_
   refine lw_v (.pointer (some ⟨g18, o19 + i * 13, none⟩)) (dv_indexM (g := g18) (o := o19) (l := l) (c := cc) (i := i) (j := (i : Int)) (m := 13) us46 sz52 (T rfl rfl) (T rfl rfl) (by omega) (by first | omega | (simp; done) | (simp; omega))) ?_
   refine lw_v (.pointer (some ⟨g18, o19 + (i * 13), none⟩)) (dv_fieldW (g := g18) (o := o19) (i := i * 13) fo52_0 (T rfl rfl)) ?_
   refine lw_v (.pointer (some ⟨g18, o19 + (i * 13 + 8), none⟩)) (dv_fieldW (g := g18) (o := o19) (i := i * 13) fo40_2 (T rfl rfl)) ?_
   refine lw_v (.pointer (some ⟨g18, o19 + (i * 13 + 8), none⟩)) (dv_fieldW (g := g18) (o := o19) (i := i * 13 + 8) fo38_0 (T rfl rfl)) ?_
   refine lw_e (oe_storeWd (lo := lo) (hi := hi) (x := x) (l := l) (g := g18) (o := o19) (i := i) (j := 8) (z := (((((((kk + 1) + 1) + 1) + 1) + 1) + 1) + 1) + 1) sz36 (T rfl rfl) (T rfl rfl) hN49 (by decide) (by first | omega | (simp; done) | (simp; omega)) (by decide) ?_)
   intro w52 hN53 x54
   have E55 := below_mid E51 (Nat.le_refl _) (Nat.le_trans hb0 E51.size) x54
   refine lw_nil ?_
   refine rk_seq ?_
   refine rk_reg ?_
   refine lw_v (.int .i64 ((((((((kk + 1) + 1) + 1) + 1) + 1) + 1) + 1) + 1)) (dv_move (T rfl rfl)) ?_
   refine lw_v (.int .i64 (((((((((kk + 1) + 1) + 1) + 1) + 1) + 1) + 1) + 1) + 1)) (dv_add (a := (((((((kk + 1) + 1) + 1) + 1) + 1) + 1) + 1) + 1) (b := 1) (z := ((((((((kk + 1) + 1) + 1) + 1) + 1) + 1) + 1) + 1) + 1) (T rfl rfl) C (wr_i64 (by omega) (by omega))) ?_
   refine lw_v (.int .i64 (((((((((kk + 1) + 1) + 1) + 1) + 1) + 1) + 1) + 1) + 1)) (dv_assign (T rfl rfl)) ?_
   refine lw_nil ?_
   refine rk_seq ?_
   refine rk_reg ?_
   refine lw_v (.slice (some ⟨g18, o19, none⟩) l cc) (dv_move (T rfl f6)) ?_
   refine lw_v (.int .i64 ((i : Int))) (dv_move (T rfl f9)) ?_
   refine lw_v (.int .i64 (((((((((kk + 1) + 1) + 1) + 1) + 1) + 1) + 1) + 1) + 1)) (dv_move (T rfl rfl)) ?_
   refine lw_v (.int .u64 (((((((((kk + 1) + 1) + 1) + 1) + 1) + 1) + 1) + 1) + 1)) (dv_conv (a := ((((((((kk + 1) + 1) + 1) + 1) + 1) + 1) + 1) + 1) + 1) (z := ((((((((kk + 1) + 1) + 1) + 1) + 1) + 1) + 1) + 1) + 1) ui3 ui36 (T rfl rfl) (wn_u64 (by omega) (by omega))) ?_
   refine lw_v (.pointer (some ⟨g18, o19 + i * 13, none⟩)) (dv_indexM (g := g18) (o := o19) (l := l) (c := cc) (i := i) (j := (i : Int)) (m := 13) us46 sz52 (T rfl rfl) (T rfl rfl) (by omega) (by first | omega | (simp; done) | (simp; omega))) ?_
   refine lw_v (.pointer (some ⟨g18, o19 + (i * 13), none⟩)) (dv_fieldW (g := g18) (o := o19) (i := i * 13) fo52_0 (T rfl rfl)) ?_
   refine lw_v (.pointer (some ⟨g18, o19 + (i * 13 + 8), none⟩)) (dv_fieldW (g := g18) (o := o19) (i := i * 13) fo40_2 (T rfl rfl)) ?_
   refine lw_v (.pointer (some ⟨g18, o19 + (i * 13 + 9), none⟩)) (dv_fieldW (g := g18) (o := o19) (i := i * 13 + 8) fo38_1 (T rfl rfl)) ?_
   refine lw_e (oe_storeWd (lo := lo) (hi := hi) (x := x) (l := l) (g := g18) (o := o19) (i := i) (j := 9) (z := ((((((((kk + 1) + 1) + 1) + 1) + 1) + 1) + 1) + 1) + 1) sz36 (T rfl rfl) (T rfl rfl) hN53 (by decide) (by first | omega | (simp; done) | (simp; omega)) (by decide) ?_)
   intro w56 hN57 x58
   have E59 := below_mid E55 (Nat.le_refl _) (Nat.le_trans hb0 E55.size) x58
   refine lw_nil ?_
   refine rk_seq ?_
   refine rk_reg ?_
   refine lw_v (.int .i64 (((((((((kk + 1) + 1) + 1) + 1) + 1) + 1) + 1) + 1) + 1)) (dv_move (T rfl rfl)) ?_
   refine lw_v (.int .i64 ((((((((((kk + 1) + 1) + 1) + 1) + 1) + 1) + 1) + 1) + 1) + 1)) (dv_add (a := ((((((((kk + 1) + 1) + 1) + 1) + 1) + 1) + 1) + 1) + 1) (b := 1) (z := (((((((((kk + 1) + 1) + 1) + 1) + 1) + 1) + 1) + 1) + 1) + 1) (T rfl rfl) C (wr_i64 (by omega) (by omega))) ?_
   refine lw_v (.int .i64 ((((((((((kk + 1) + 1) + 1) + 1) + 1) + 1) + 1) + 1) + 1) + 1)) (dv_assign (T rfl rfl)) ?_
   refine lw_nil ?_
   refine rk_seq ?_
   refine rk_reg ?_
   refine lw_v (.slice (some ⟨g18, o19, none⟩) l cc) (dv_move (T rfl f6)) ?_
   refine lw_v (.int .i64 ((i : Int))) (dv_move (T rfl f9)) ?_
   refine lw_v (.int .i64 ((((((((((kk + 1) + 1) + 1) + 1) + 1) + 1) + 1) + 1) + 1) + 1)) (dv_move (T rfl rfl)) ?_
   refine lw_v (.int .u64 ((((((((((kk + 1) + 1) + 1) + 1) + 1) + 1) + 1) + 1) + 1) + 1)) (dv_conv (a := (((((((((kk + 1) + 1) + 1) + 1) + 1) + 1) + 1) + 1) + 1) + 1) (z := (((((((((kk + 1) + 1) + 1) + 1) + 1) + 1) + 1) + 1) + 1) + 1) ui3 ui36 (T rfl rfl) (wn_u64 (by omega) (by omega))) ?_
   refine lw_v (.pointer (some ⟨g18, o19 + i * 13, none⟩)) (dv_indexM (g := g18) (o := o19) (l := l) (c := cc) (i := i) (j := (i : Int)) (m := 13) us46 sz52 (T rfl rfl) (T rfl rfl) (by omega) (by first | omega | (simp; done) | (simp; omega))) ?_
   refine lw_v (.pointer (some ⟨g18, o19 + (i * 13), none⟩)) (dv_fieldW (g := g18) (o := o19) (i := i * 13) fo52_0 (T rfl rfl)) ?_
   refine lw_v (.pointer (some ⟨g18, o19 + (i * 13 + 8), none⟩)) (dv_fieldW (g := g18) (o := o19) (i := i * 13) fo40_2 (T rfl rfl)) ?_
   refine lw_v (.pointer (some ⟨g18, o19 + (i * 13 + 10), none⟩)) (dv_fieldW (g := g18) (o := o19) (i := i * 13 + 8) fo38_2 (T rfl rfl)) ?_
   refine lw_e (oe_storeWd (lo := lo) (hi := hi) (x := x) (l := l) (g := g18) (o := o19) (i := i) (j := 10) (z := (((((((((kk + 1) + 1) + 1) + 1) + 1) + 1) + 1) + 1) + 1) + 1) sz36 (T rfl rfl) (T rfl rfl) hN57 (by decide) (by first | omega | (simp; done) | (simp; omega)) (by decide) ?_)
   intro w60 hN61 x62
   have E63 := below_mid E59 (Nat.le_refl _) (Nat.le_trans hb0 E59.size) x62
   refine lw_nil ?_
   refine rk_seq ?_
   refine rk_reg ?_
   refine lw_v (.int .i64 ((((((((((kk + 1) + 1) + 1) + 1) + 1) + 1) + 1) + 1) + 1) + 1)) (dv_move (T rfl rfl)) ?_
   refine lw_v (.int .i64 (((((((((((kk + 1) + 1) + 1) + 1) + 1) + 1) + 1) + 1) + 1) + 1) + 1)) (dv_add (a := (((((((((kk + 1) + 1) + 1) + 1) + 1) + 1) + 1) + 1) + 1) + 1) (b := 1) (z := ((((((((((kk + 1) + 1) + 1) + 1) + 1) + 1) + 1) + 1) + 1) + 1) + 1) (T rfl rfl) C (wr_i64 (by omega) (by omega))) ?_
   refine lw_v (.int .i64 (((((((((((kk + 1) + 1) + 1) + 1) + 1) + 1) + 1) + 1) + 1) + 1) + 1)) (dv_assign (T rfl rfl)) ?_
   refine lw_nil ?_
   refine rk_seq ?_
   refine rk_reg ?_
   refine lw_v (.slice (some ⟨g18, o19, none⟩) l cc) (dv_move (T rfl f6)) ?_
   refine lw_v (.int .i64 ((i : Int))) (dv_move (T rfl f9)) ?_
   refine lw_v (.int .i64 (((((((((((kk + 1) + 1) + 1) + 1) + 1) + 1) + 1) + 1) + 1) + 1) + 1)) (dv_move (T rfl rfl)) ?_
   refine lw_v (.int .u64 (((((((((((kk + 1) + 1) + 1) + 1) + 1) + 1) + 1) + 1) + 1) + 1) + 1)) (dv_conv (a := ((((((((((kk + 1) + 1) + 1) + 1) + 1) + 1) + 1) + 1) + 1) + 1) + 1) (z := ((((((((((kk + 1) + 1) + 1) + 1) + 1) + 1) + 1) + 1) + 1) + 1) + 1) ui3 ui36 (T rfl rfl) (wn_u64 (by omega) (by omega))) ?_
   refine lw_v (.pointer (some ⟨g18, o19 + i * 13, none⟩)) (dv_indexM (g := g18) (o := o19) (l := l) (c := cc) (i := i) (j := (i : Int)) (m := 13) us46 sz52 (T rfl rfl) (T rfl rfl) (by omega) (by first | omega | (simp; done) | (simp; omega))) ?_
   refine lw_v (.pointer (some ⟨g18, o19 + (i * 13), none⟩)) (dv_fieldW (g := g18) (o := o19) (i := i * 13) fo52_0 (T rfl rfl)) ?_
   refine lw_v (.pointer (some ⟨g18, o19 + (i * 13 + 8), none⟩)) (dv_fieldW (g := g18) (o := o19) (i := i * 13) fo40_2 (T rfl rfl)) ?_
   refine lw_v (.pointer (some ⟨g18, o19 + (i * 13 + 11), none⟩)) (dv_fieldW (g := g18) (o := o19) (i := i * 13 + 8) fo38_3 (T rfl rfl)) ?_
   refine lw_e (oe_storeWd (lo := lo) (hi := hi) (x := x) (l := l) (g := g18) (o := o19) (i := i) (j := 11) (z := ((((((((((kk + 1) + 1) + 1) + 1) + 1) + 1) + 1) + 1) + 1) + 1) + 1) sz36 (T rfl rfl) (T rfl rfl) hN61 (by decide) (by first | omega | (simp; done) | (simp; omega)) (by decide) ?_)
   intro w64 hN65 x66
   have E67 := below_mid E63 (Nat.le_refl _) (Nat.le_trans hb0 E63.size) x66
   refine lw_nil ?_
   refine rk_seq ?_
   refine rk_reg ?_
   refine lw_v (.int .i64 (((((((((((kk + 1) + 1) + 1) + 1) + 1) + 1) + 1) + 1) + 1) + 1) + 1)) (dv_move (T rfl rfl)) ?_
   refine lw_v (.int .i64 ((((((((((((kk + 1) + 1) + 1) + 1) + 1) + 1) + 1) + 1) + 1) + 1) + 1) + 1)) (dv_add (a := ((((((((((kk + 1) + 1) + 1) + 1) + 1) + 1) + 1) + 1) + 1) + 1) + 1) (b := 1) (z := (((((((((((kk + 1) + 1) + 1) + 1) + 1) + 1) + 1) + 1) + 1) + 1) + 1) + 1) (T rfl rfl) C (wr_i64 (by omega) (by omega))) ?_
   refine lw_v (.int .i64 ((((((((((((kk + 1) + 1) + 1) + 1) + 1) + 1) + 1) + 1) + 1) + 1) + 1) + 1)) (dv_assign (T rfl rfl)) ?_
   refine lw_nil ?_
   refine rk_reg ?_
   refine lw_v (.slice (some ⟨g18, o19, none⟩) l cc) (dv_move (T rfl f6)) ?_
   refine lw_v (.int .i64 ((i : Int))) (dv_move (T rfl f9)) ?_
   refine lw_v (.pointer (some ⟨g18, o19 + i * 13, none⟩)) (dv_indexM (g := g18) (o := o19) (l := l) (c := cc) (i := i) (j := (i : Int)) (m := 13) us46 sz52 (T rfl rfl) (T rfl rfl) (by omega) (by first | omega | (simp; done) | (simp; omega))) ?_
   refine lw_v (.pointer (some ⟨g18, o19 + (i * 13 + 12), none⟩)) (dv_fieldW (g := g18) (o := o19) (i := i * 13) fo52_1 (T rfl rfl)) ?_
   refine lw_v (.slice As13 ((E' i).length) cs14) (dv_load agt50 (T rfl rfl) (NR.slA (i := i) hN65.nr (by first | omega | (simp; done) | (simp; omega)) hAs15 hcs16)) ?_
   refine lw_v (.int .i64 ((((((((((((kk + 1) + 1) + 1) + 1) + 1) + 1) + 1) + 1) + 1) + 1) + 1) + 1)) (dv_move (T rfl rfl)) ?_
   refine lw_e (oe_callf (vs := [.slice As13 ((E' i).length) cs14, .int .i64 ((((((((((((kk + 1) + 1) + 1) + 1) + 1) + 1) + 1) + 1) + 1) + 1) + 1) + 1)]) co35 (ar2 (T rfl rfl) (T rfl rfl)) (markInner_ok (i := i) hN65 (by first | omega | (simp; done) | (simp; omega)) hAs15 hcs16 rfl (by first | omega | (simp; done) | (simp; omega)) (by omega)) ?_)
   rintro _ w69 ⟨rfl, e70, hN68⟩
   have E71 := below_mid E67 (Nat.le_refl _) (Nat.le_trans hb0 E67.size) e70
   refine lw_v (.int .i64 (((((((((((((kk + 1) + 1) + 1) + 1) + 1) + 1) + 1) + 1) + 1) + 1) + 1) + 1) + ((E' i).length : Int))) (dv_assign (T rfl rfl)) ?_
   refine lw_nil ?_
   refine rk_inBlock ?_
   refine rk_reg ?_
   refine lw_v (.int .i64 ((i : Int))) (dv_move (T rfl f9)) ?_
   refine lw_v (.int .i64 (((i : Int)) + 1)) (dv_add (a := (i : Int)) (b := 1) (z := ((i : Int)) + 1) (T rfl rfl) C (wr_i64 (by omega) (by omega))) ?_
   refine lw_v (.int .i64 (((i : Int)) + 1)) (dv_assign (T rfl rfl)) ?_
   refine lw_nil ?_
   exact ih3 (l - ((i + 1))) _ _ (by rw [hd12]; omega) ⟨(i + 1), (((((((((((((kk + 1) + 1) + 1) + 1) + 1) + 1) + 1) + 1) + 1) + 1) + 1) + 1) + ((E' i).length : Int)), (upW ((upW ((upW ((upW ((upW ((upW ((upW ((upW ((upW ((upW ((upW ((upW W' i 0 kk)) i 1 (kk + 1))) i 2 ((kk + 1) + 1))) i 3 (((kk + 1) + 1) + 1))) i 4 ((((kk + 1) + 1) + 1) + 1))) i 5 (((((kk + 1) + 1) + 1) + 1) + 1))) i 6 ((((((kk + 1) + 1) + 1) + 1) + 1) + 1))) i 7 (((((((kk + 1) + 1) + 1) + 1) + 1) + 1) + 1))) i 8 ((((((((kk + 1) + 1) + 1) + 1) + 1) + 1) + 1) + 1))) i 9 (((((((((kk + 1) + 1) + 1) + 1) + 1) + 1) + 1) + 1) + 1))) i 10 ((((((((((kk + 1) + 1) + 1) + 1) + 1) + 1) + 1) + 1) + 1) + 1))) i 11 (((((((((((kk + 1) + 1) + 1) + 1) + 1) + 1) + 1) + 1) + 1) + 1) + 1)), (updA E' i (mkL ((((((((((((kk + 1) + 1) + 1) + 1) + 1) + 1) + 1) + 1) + 1) + 1) + 1) + 1) ((E' i).length))), rfl, f6, (rfl), f8, (vi (by omega)), E71, hN68, (by omega), (by rw [kAt_s]; omega), (upE_len hlen (mkL_len _ _)), (mkd_step hmd hlen (by omega) (by omega) (by omega) (by omega) (by omega) (by omega) (by omega) (by omega) (by omega) (by omega) (by omega) (by omega) (by omega)), (((((((((((((hMid.trans x22).trans x26).trans x30).trans x34).trans x38).trans x42).trans x46).trans x50).trans x54).trans x58).trans x62).trans x66).trans e70)⟩
 · refine rk_cf (T rfl (congrArg Value.bool (decide_eq_false hb17))) ?_
   refine rk_exit rfl ?_
   refine rk_seq ?_
   refine rk_reg ?_
   refine lw_v (.int .i64 kk) (dv_move (T rfl f7)) ?_
   refine lw_v (.int .i64 kk) (dv_assign (T rfl rfl)) ?_
   refine lw_nil ?_
   refine rk_ret Try.func23 (v := .int .i64 kk) (res1 Try.results23 (rv_tmp rfl rfl)) ⟨_, rfl, ?_⟩
   obtain rfl : i = l := by omega
   exact ⟨W', E', vi hkk, hMid, h11, hlen, hmd⟩
set_option maxHeartbeats 1000000 in
theorem heldInt64S_ok {w : World} {A : Option Addr} {n c : Nat} {xs : List Int} (hx : RdI w .i64 A xs) {k : Int} (hxl : xs.length = n) (hxb : n ≤ 1048576) (hm : xs = mkL k n) (hk : 0 ≤ k ∧ k ≤ 1152921504606846976) : Ct Try.prog 36 [.slice A n c, .int .i64 k] w fun v w1 => v = .int .i64 (k + (n : Int)) ∧ Ext w w1 := by
 refine ct_run (n := 21) Try.func36 rfl Try.ntmps36 rfl ?_
 have E0 : Below w.heap.size w w := Below.refl _ _
 refine rk_seq ?_
 refine rk_reg ?_
 refine lw_v (.int .i64 0) (dv_assign C) ?_
 refine lw_nil ?_
 refine rk_seq ?_
 refine rk_seq ?_
 refine rk_reg ?_
 refine lw_v (.int .i64 0) (dv_assign C) ?_
 refine lw_nil ?_
 refine rk_block ?_
 refine rk_loop (fun dm_ fr wl => ∃ (i : Nat), dm_ = n - i ∧ fr 0 = .slice A n c ∧ fr 1 = .int .i64 (k + (i : Int)) ∧ fr 5 = .int .i64 ((i : Int)) ∧ Below w.heap.size w wl ∧ (i ≤ n)) (n - 0) ⟨0, rfl, rfl, (vi (by omega)), (vi (by omega)), E0, (Nat.zero_le _)⟩ ?_
 intro d5 fr4 w1 hI2 ih3
 obtain ⟨i, hd10, f6, f7, f8, E9, hi⟩ := hI2
 refine rk_seq ?_
 refine rk_seq ?_
 refine rk_reg ?_
 refine lw_v (.int .i64 ((i : Int))) (dv_move (T rfl f8)) ?_
 refine lw_v (.slice A n c) (dv_move (T rfl f6)) ?_
 refine lw_v (.int .i64 ((n : Int))) (dv_len (ad := A) (l := n) (c := c) us50 (T rfl rfl)) ?_
 refine lw_v (.bool (decide (((i : Int)) < ((n : Int))))) (dv_lss (a := (i : Int)) (b := (n : Int)) (T rfl rfl) (T rfl rfl)) ?_
 refine lw_nil ?_
 by_cases hb11 : ((i : Int)) < ((n : Int))
 · refine rk_ct (T rfl (congrArg Value.bool (decide_eq_true hb11))) ?_
   refine rk_skip ?_
   refine rk_seq ?_
   refine rk_block ?_
   refine rk_seq ?_
   refine rk_seq ?_
   refine rk_reg ?_
   refine lw_v (.slice A n c) (dv_move (T rfl f6)) ?_
   refine lw_v (.int .i64 ((i : Int))) (dv_move (T rfl f8)) ?_
   have h12 := (hx.ext E9)
   obtain ⟨g13, o14, rfl⟩ := RdI.at h12 (by first | omega | (simp; done) | (simp; omega))
   refine lw_v (.pointer (some ⟨g13, o14 + i, none⟩)) (dv_indexW (g := g13) (o := o14) (l := n) (c := c) (i := i) (j := (i : Int)) us50 sz2 (T rfl rfl) (T rfl rfl) (by omega) (by first | omega | (simp; done) | (simp; omega))) ?_
   refine lw_v (.int .i64 (xs.getD i 0)) (dv_load agt2 (T rfl rfl) (RdI.cell h12 (by first | omega | (simp; done) | (simp; omega)))) ?_
   refine lw_v (.int .i64 (k + (i : Int))) (dv_move (T rfl f7)) ?_
   refine lw_v (.bool (decide ((xs.getD i 0) ≠ (k + (i : Int))))) (dv_neq (a := xs.getD i 0) (b := k + (i : Int)) (T rfl rfl) (T rfl rfl)) ?_
   refine lw_nil ?_
   by_cases hb15 : (xs.getD i 0) ≠ (k + (i : Int))
   · refine rk_ct (T rfl (congrArg Value.bool (decide_eq_true hb15))) ?_
     refine rk_seq ?_
     refine rk_reg ?_
     refine lw_v (.int .i64 (-1)) (dv_assign C) ?_
     refine lw_nil ?_
     refine rk_ret Try.func36 (v := .int .i64 (-1)) (res1 Try.results36 (rv_tmp rfl rfl)) ⟨_, rfl, ?_⟩
     exact absurd ((congrArg (fun q : List Int => q.getD i 0) hm).trans (mkL_getD (by omega))) (by assumption)
   · refine rk_cf (T rfl (congrArg Value.bool (decide_eq_false hb15))) ?_
     refine rk_skip ?_
     refine rk_reg ?_
     refine lw_v (.int .i64 (k + (i : Int))) (dv_move (T rfl f7)) ?_
     refine lw_v (.int .i64 ((k + (i : Int)) + 1)) (dv_add (a := k + (i : Int)) (b := 1) (z := (k + (i : Int)) + 1) (T rfl rfl) C (wr_i64 (by omega) (by omega))) ?_
     refine lw_v (.int .i64 ((k + (i : Int)) + 1)) (dv_assign (T rfl rfl)) ?_
     refine lw_nil ?_
     refine rk_inBlock ?_
     refine rk_reg ?_
     refine lw_v (.int .i64 ((i : Int))) (dv_move (T rfl f8)) ?_
     refine lw_v (.int .i64 (((i : Int)) + 1)) (dv_add (a := (i : Int)) (b := 1) (z := ((i : Int)) + 1) (T rfl rfl) C (wr_i64 (by omega) (by omega))) ?_
     refine lw_v (.int .i64 (((i : Int)) + 1)) (dv_assign (T rfl rfl)) ?_
     refine lw_nil ?_
     exact ih3 (n - ((i + 1))) _ _ (by rw [hd10]; omega) ⟨(i + 1), rfl, f6, (vi (by omega)), (vi (by omega)), E9, (by omega)⟩
 · refine rk_cf (T rfl (congrArg Value.bool (decide_eq_false hb11))) ?_
   refine rk_exit rfl ?_
   refine rk_seq ?_
   refine rk_reg ?_
   refine lw_v (.int .i64 (k + (i : Int))) (dv_move (T rfl f7)) ?_
   refine lw_v (.int .i64 (k + (i : Int))) (dv_assign (T rfl rfl)) ?_
   refine lw_nil ?_
   refine rk_ret Try.func36 (v := .int .i64 (k + (i : Int))) (res1 Try.results36 (rv_tmp rfl rfl)) ⟨_, rfl, ?_⟩
   exact ⟨vi (by omega), E9⟩
set_option maxRecDepth 100000 in
set_option maxHeartbeats 8000000 in
theorem heldEventS_ok {w : World} {lo hi : Nat} {k0 : Int} {A : Option Addr} {l cc : Nat} {W' : Nat → Nat → Int} {E E' : Nat → List Int} {SL : SlF} (hx : NR w lo hi A l W' E' SL) (hlen : ∀ q, (E' q).length = (E q).length) (hmd : mkd k0 E l W' E') (hEl : ∀ i, i < l → (E i).length ≤ 1048576) (hl : l ≤ 1048576) (hk : 0 ≤ k0 ∧ k0 ≤ 1073741824) : Ct Try.prog 26 [.slice A l cc, .int .i64 k0] w fun v w1 => v = .int .i64 (kAt k0 E l) ∧ Ext w w1 := by
 refine ct_run (n := 166) Try.func26 rfl Try.ntmps26 rfl ?_
 have E0 : Below w.heap.size w w := Below.refl _ _
 refine rk_seq ?_
 refine rk_reg ?_
 refine lw_v (.int .i64 0) (dv_assign C) ?_
 refine lw_nil ?_
 refine rk_seq ?_
 refine rk_seq ?_
 refine rk_reg ?_
 refine lw_v (.int .i64 0) (dv_assign C) ?_
 refine lw_nil ?_
 refine rk_block ?_
 refine rk_loop (fun dm_ fr wl => ∃ (i : Nat) (kk : Int), dm_ = l - i ∧ fr 0 = .slice A l cc ∧ fr 1 = .int .i64 kk ∧ fr 5 = .int .i64 ((i : Int)) ∧ Below w.heap.size w wl ∧ (i ≤ l) ∧ (kk = kAt k0 E i)) (l - 0) ⟨0, k0, rfl, rfl, (rfl), (vi (by omega)), E0, (Nat.zero_le _), rfl⟩ ?_
 intro d5 fr4 w1 hI2 ih3
 obtain ⟨i, kk, hd10, f6, f7, f8, E9, hi_, hkk⟩ := hI2
 obtain ⟨As11, hAs13⟩ : ∃ q_ : Option Addr, q_ = (SL i).1 := ⟨_, rfl⟩
 obtain ⟨cs12, hcs14⟩ : ∃ q_ : Nat, q_ = (SL i).2 := ⟨_, rfl⟩
 have hk1 := kAt_ge k0 E i; have hk2 := kAt_le k0 hEl i hi_; have hen : i < l → (E i).length ≤ 1048576 := fun h_ => hEl i h_
 have hln := hlen i
 refine rk_seq ?_
 refine rk_seq ?_
 refine rk_reg ?_
 refine lw_v (.int .i64 ((i : Int))) (dv_move (T rfl f8)) ?_
 refine lw_v (.slice A l cc) (dv_move (T rfl f6)) ?_
 refine lw_v (.int .i64 ((l : Int))) (dv_len (ad := A) (l := l) (c := cc) us46 (T rfl rfl)) ?_
 refine lw_v (.bool (decide (((i : Int)) < ((l : Int))))) (dv_lss (a := (i : Int)) (b := (l : Int)) (T rfl rfl) (T rfl rfl)) ?_
 refine lw_nil ?_
 by_cases hb15 : ((i : Int)) < ((l : Int))
 · refine rk_ct (T rfl (congrArg Value.bool (decide_eq_true hb15))) ?_
   refine rk_skip ?_
   refine rk_seq ?_
   refine rk_block ?_
   refine rk_seq ?_
   refine rk_seq ?_
   refine rk_reg ?_
   refine lw_v (.slice A l cc) (dv_move (T rfl f6)) ?_
   refine lw_v (.int .i64 ((i : Int))) (dv_move (T rfl f8)) ?_
   have h18 := (hx.ext E9)
   obtain ⟨g16, o17, rfl⟩ := NR.at h18 (by first | omega | (simp; done) | (simp; omega))
   refine lw_v (.pointer (some ⟨g16, o17 + i * 13, none⟩)) (dv_indexM (g := g16) (o := o17) (l := l) (c := cc) (i := i) (j := (i : Int)) (m := 13) us46 sz52 (T rfl rfl) (T rfl rfl) (by omega) (by first | omega | (simp; done) | (simp; omega))) ?_
   refine lw_v (.pointer (some ⟨g16, o17 + (i * 13), none⟩)) (dv_fieldW (g := g16) (o := o17) (i := i * 13) fo52_0 (T rfl rfl)) ?_
   refine lw_v (.pointer (some ⟨g16, o17 + (i * 13), none⟩)) (dv_fieldW (g := g16) (o := o17) (i := i * 13) fo40_0 (T rfl rfl)) ?_
   refine lw_v (.pointer (some ⟨g16, o17 + (i * 13), none⟩)) (dv_fieldW (g := g16) (o := o17) (i := i * 13) fo38_0 (T rfl rfl)) ?_
   refine lw_v (.int .u64 (W' i 0)) (dv_load agt36 (T rfl rfl) (NR.word (i := i) (j := 0) h18 (by first | omega | (simp; done) | (simp; omega)) (by decide))) ?_
   refine lw_v (.int .i64 kk) (dv_move (T rfl f7)) ?_
   refine lw_v (.int .u64 kk) (dv_conv (a := kk) (z := kk) ui3 ui36 (T rfl rfl) (wn_u64 (by omega) (by omega))) ?_
   refine lw_v (.bool (decide ((W' i 0) ≠ kk))) (dv_neq (a := W' i 0) (b := kk) (T rfl rfl) (T rfl rfl)) ?_
   refine lw_nil ?_
   by_cases hb19 : (W' i 0) ≠ kk
   · refine rk_ct (T rfl (congrArg Value.bool (decide_eq_true hb19))) ?_
     refine rk_seq ?_
     refine rk_reg ?_
     refine lw_v (.int .i64 (-1)) (dv_assign C) ?_
     refine lw_nil ?_
     refine rk_ret Try.func26 (v := .int .i64 (-1)) (res1 Try.results26 (rv_tmp rfl rfl)) ⟨_, rfl, ?_⟩
     exfalso
     have hw_ := (hmd i (by omega)).1
     have w0_ := hw_ 0 (by decide); have w1_ := hw_ 1 (by decide); have w2_ := hw_ 2 (by decide); have w3_ := hw_ 3 (by decide); have w4_ := hw_ 4 (by decide); have w5_ := hw_ 5 (by decide); have w6_ := hw_ 6 (by decide); have w7_ := hw_ 7 (by decide); have w8_ := hw_ 8 (by decide); have w9_ := hw_ 9 (by decide); have w10_ := hw_ 10 (by decide); have w11_ := hw_ 11 (by decide)
     omega
   · refine rk_cf (T rfl (congrArg Value.bool (decide_eq_false hb19))) ?_
     refine rk_skip ?_
     refine rk_seq ?_
     refine rk_reg ?_
     refine lw_v (.int .i64 kk) (dv_move (T rfl f7)) ?_
     refine lw_v (.int .i64 (kk + 1)) (dv_add (a := kk) (b := 1) (z := kk + 1) (T rfl rfl) C (wr_i64 (by omega) (by omega))) ?_
     refine lw_v (.int .i64 (kk + 1)) (dv_assign (T rfl rfl)) ?_
     refine lw_nil ?_
     refine rk_seq ?_
     refine rk_seq ?_
     refine rk_reg ?_
     refine lw_v (.slice (some ⟨g16, o17, none⟩) l cc) (dv_move (T rfl f6)) ?_
     refine lw_v (.int .i64 ((i : Int))) (dv_move (T rfl f8)) ?_
     refine lw_v (.pointer (some ⟨g16, o17 + i * 13, none⟩)) (dv_indexM (g := g16) (o := o17) (l := l) (c := cc) (i := i) (j := (i : Int)) (m := 13) us46 sz52 (T rfl rfl) (T rfl rfl) (by omega) (by first | omega | (simp; done) | (simp; omega))) ?_
     refine lw_v (.pointer (some ⟨g16, o17 + (i * 13), none⟩)) (dv_fieldW (g := g16) (o := o17) (i := i * 13) fo52_0 (T rfl rfl)) ?_
     refine lw_v (.pointer (some ⟨g16, o17 + (i * 13), none⟩)) (dv_fieldW (g := g16) (o := o17) (i := i * 13) fo40_0 (T rfl rfl)) ?_
     refine lw_v (.pointer (some ⟨g16, o17 + (i * 13 + 1), none⟩)) (dv_fieldW (g := g16) (o := o17) (i := i * 13) fo38_1 (T rfl rfl)) ?_
     refine lw_v (.int .u64 (W' i 1)) (dv_load agt36 (T rfl rfl) (NR.word (i := i) (j := 1) h18 (by first | omega | (simp; done) | (simp; omega)) (by decide))) ?_
     refine lw_v (.int .i64 (kk + 1)) (dv_move (T rfl rfl)) ?_
     refine lw_v (.int .u64 (kk + 1)) (dv_conv (a := kk + 1) (z := kk + 1) ui3 ui36 (T rfl rfl) (wn_u64 (by omega) (by omega))) ?_
     refine lw_v (.bool (decide ((W' i 1) ≠ (kk + 1)))) (dv_neq (a := W' i 1) (b := kk + 1) (T rfl rfl) (T rfl rfl)) ?_
     refine lw_nil ?_
     by_cases hb20 : (W' i 1) ≠ (kk + 1)
     · refine rk_ct (T rfl (congrArg Value.bool (decide_eq_true hb20))) ?_
       refine rk_seq ?_
       refine rk_reg ?_
       refine lw_v (.int .i64 (-1)) (dv_assign C) ?_
       refine lw_nil ?_
       refine rk_ret Try.func26 (v := .int .i64 (-1)) (res1 Try.results26 (rv_tmp rfl rfl)) ⟨_, rfl, ?_⟩
       exfalso
       have hw_ := (hmd i (by omega)).1
       have w0_ := hw_ 0 (by decide); have w1_ := hw_ 1 (by decide); have w2_ := hw_ 2 (by decide); have w3_ := hw_ 3 (by decide); have w4_ := hw_ 4 (by decide); have w5_ := hw_ 5 (by decide); have w6_ := hw_ 6 (by decide); have w7_ := hw_ 7 (by decide); have w8_ := hw_ 8 (by decide); have w9_ := hw_ 9 (by decide); have w10_ := hw_ 10 (by decide); have w11_ := hw_ 11 (by decide)
       omega
     · refine rk_cf (T rfl (congrArg Value.bool (decide_eq_false hb20))) ?_
       refine rk_skip ?_
       refine rk_seq ?_
       refine rk_reg ?_
       refine lw_v (.int .i64 (kk + 1)) (dv_move (T rfl rfl)) ?_
       refine lw_v (.int .i64 ((kk + 1) + 1)) (dv_add (a := kk + 1) (b := 1) (z := (kk + 1) + 1) (T rfl rfl) C (wr_i64 (by omega) (by omega))) ?_
       refine lw_v (.int .i64 ((kk + 1) + 1)) (dv_assign (T rfl rfl)) ?_
       refine lw_nil ?_
       refine rk_seq ?_
       refine rk_seq ?_
       refine rk_reg ?_
       refine lw_v (.slice (some ⟨g16, o17, none⟩) l cc) (dv_move (T rfl f6)) ?_
       refine lw_v (.int .i64 ((i : Int))) (dv_move (T rfl f8)) ?_
       refine lw_v (.pointer (some ⟨g16, o17 + i * 13, none⟩)) (dv_indexM (g := g16) (o := o17) (l := l) (c := cc) (i := i) (j := (i : Int)) (m := 13) us46 sz52 (T rfl rfl) (T rfl rfl) (by omega) (by first | omega | (simp; done) | (simp; omega))) ?_
       refine lw_v (.pointer (some ⟨g16, o17 + (i * 13), none⟩)) (dv_fieldW (g := g16) (o := o17) (i := i * 13) fo52_0 (T rfl rfl)) ?_
       refine lw_v (.pointer (some ⟨g16, o17 + (i * 13), none⟩)) (dv_fieldW (g := g16) (o := o17) (i := i * 13) fo40_0 (T rfl rfl)) ?_
       refine lw_v (.pointer (some ⟨g16, o17 + (i * 13 + 2), none⟩)) (dv_fieldW (g := g16) (o := o17) (i := i * 13) fo38_2 (T rfl rfl)) ?_
       refine lw_v (.int .u64 (W' i 2)) (dv_load agt36 (T rfl rfl) (NR.word (i := i) (j := 2) h18 (by first | omega | (simp; done) | (simp; omega)) (by decide))) ?_
       refine lw_v (.int .i64 ((kk + 1) + 1)) (dv_move (T rfl rfl)) ?_
       refine lw_v (.int .u64 ((kk + 1) + 1)) (dv_conv (a := (kk + 1) + 1) (z := (kk + 1) + 1) ui3 ui36 (T rfl rfl) (wn_u64 (by omega) (by omega))) ?_
       refine lw_v (.bool (decide ((W' i 2) ≠ ((kk + 1) + 1)))) (dv_neq (a := W' i 2) (b := (kk + 1) + 1) (T rfl rfl) (T rfl rfl)) ?_
       refine lw_nil ?_
       by_cases hb21 : (W' i 2) ≠ ((kk + 1) + 1)
       · refine rk_ct (T rfl (congrArg Value.bool (decide_eq_true hb21))) ?_
         refine rk_seq ?_
         refine rk_reg ?_
         refine lw_v (.int .i64 (-1)) (dv_assign C) ?_
         refine lw_nil ?_
         refine rk_ret Try.func26 (v := .int .i64 (-1)) (res1 Try.results26 (rv_tmp rfl rfl)) ⟨_, rfl, ?_⟩
         exfalso
         have hw_ := (hmd i (by omega)).1
         have w0_ := hw_ 0 (by decide); have w1_ := hw_ 1 (by decide); have w2_ := hw_ 2 (by decide); have w3_ := hw_ 3 (by decide); have w4_ := hw_ 4 (by decide); have w5_ := hw_ 5 (by decide); have w6_ := hw_ 6 (by decide); have w7_ := hw_ 7 (by decide); have w8_ := hw_ 8 (by decide); have w9_ := hw_ 9 (by decide); have w10_ := hw_ 10 (by decide); have w11_ := hw_ 11 (by decide)
         omega
       · refine rk_cf (T rfl (congrArg Value.bool (decide_eq_false hb21))) ?_
         refine rk_skip ?_
         refine rk_seq ?_
         refine rk_reg ?_
         refine lw_v (.int .i64 ((kk + 1) + 1)) (dv_move (T rfl rfl)) ?_
         refine lw_v (.int .i64 (((kk + 1) + 1) + 1)) (dv_add (a := (kk + 1) + 1) (b := 1) (z := ((kk + 1) + 1) + 1) (T rfl rfl) C (wr_i64 (by omega) (by omega))) ?_
         refine lw_v (.int .i64 (((kk + 1) + 1) + 1)) (dv_assign (T rfl rfl)) ?_
         refine lw_nil ?_
         refine rk_seq ?_
         refine rk_seq ?_
         refine rk_reg ?_
         refine lw_v (.slice (some ⟨g16, o17, none⟩) l cc) (dv_move (T rfl f6)) ?_
         refine lw_v (.int .i64 ((i : Int))) (dv_move (T rfl f8)) ?_
         refine lw_v (.pointer (some ⟨g16, o17 + i * 13, none⟩)) (dv_indexM (g := g16) (o := o17) (l := l) (c := cc) (i := i) (j := (i : Int)) (m := 13) us46 sz52 (T rfl rfl) (T rfl rfl) (by omega) (by first | omega | (simp; done) | (simp; omega))) ?_
         refine lw_v (.pointer (some ⟨g16, o17 + (i * 13), none⟩)) (dv_fieldW (g := g16) (o := o17) (i := i * 13) fo52_0 (T rfl rfl)) ?_
         refine lw_v (.pointer (some ⟨g16, o17 + (i * 13), none⟩)) (dv_fieldW (g := g16) (o := o17) (i := i * 13) fo40_0 (T rfl rfl)) ?_
         refine lw_v (.pointer (some ⟨g16, o17 + (i * 13 + 3), none⟩)) (dv_fieldW (g := g16) (o := o17) (i := i * 13) fo38_3 (T rfl rfl)) ?_
         refine lw_v (.int .u64 (W' i 3)) (dv_load agt36 (T rfl rfl) (NR.word (i := i) (j := 3) h18 (by first | omega | (simp; done) | (simp; omega)) (by decide))) ?_
         refine lw_v (.int .i64 (((kk + 1) + 1) + 1)) (dv_move (T rfl rfl)) ?_
         refine lw_v (.int .u64 (((kk + 1) + 1) + 1)) (dv_conv (a := ((kk + 1) + 1) + 1) (z := ((kk + 1) + 1) + 1) ui3 ui36 (T rfl rfl) (wn_u64 (by omega) (by omega))) ?_
         refine lw_v (.bool (decide ((W' i 3) ≠ (((kk + 1) + 1) + 1)))) (dv_neq (a := W' i 3) (b := ((kk + 1) + 1) + 1) (T rfl rfl) (T rfl rfl)) ?_
         refine lw_nil ?_
         by_cases hb22 : (W' i 3) ≠ (((kk + 1) + 1) + 1)
         · refine rk_ct (T rfl (congrArg Value.bool (decide_eq_true hb22))) ?_
           refine rk_seq ?_
           refine rk_reg ?_
           refine lw_v (.int .i64 (-1)) (dv_assign C) ?_
           refine lw_nil ?_
           refine rk_ret Try.func26 (v := .int .i64 (-1)) (res1 Try.results26 (rv_tmp rfl rfl)) ⟨_, rfl, ?_⟩
           exfalso
           have hw_ := (hmd i (by omega)).1
           have w0_ := hw_ 0 (by decide); have w1_ := hw_ 1 (by decide); have w2_ := hw_ 2 (by decide); have w3_ := hw_ 3 (by decide); have w4_ := hw_ 4 (by decide); have w5_ := hw_ 5 (by decide); have w6_ := hw_ 6 (by decide); have w7_ := hw_ 7 (by decide); have w8_ := hw_ 8 (by decide); have w9_ := hw_ 9 (by decide); have w10_ := hw_ 10 (by decide); have w11_ := hw_ 11 (by decide)
           omega
         · refine rk_cf (T rfl (congrArg Value.bool (decide_eq_false hb22))) ?_
           refine rk_skip ?_
           refine rk_seq ?_
           refine rk_reg ?_
           refine lw_v (.int .i64 (((kk + 1) + 1) + 1)) (dv_move (T rfl rfl)) ?_
           refine lw_v (.int .i64 ((((kk + 1) + 1) + 1) + 1)) (dv_add (a := ((kk + 1) + 1) + 1) (b := 1) (z := (((kk + 1) + 1) + 1) + 1) (T rfl rfl) C (wr_i64 (by omega) (by omega))) ?_
           refine lw_v (.int .i64 ((((kk + 1) + 1) + 1) + 1)) (dv_assign (T rfl rfl)) ?_
           refine lw_nil ?_
           refine rk_seq ?_
           refine rk_seq ?_
           refine rk_reg ?_
           refine lw_v (.slice (some ⟨g16, o17, none⟩) l cc) (dv_move (T rfl f6)) ?_
           refine lw_v (.int .i64 ((i : Int))) (dv_move (T rfl f8)) ?_
           refine lw_v (.pointer (some ⟨g16, o17 + i * 13, none⟩)) (dv_indexM (g := g16) (o := o17) (l := l) (c := cc) (i := i) (j := (i : Int)) (m := 13) us46 sz52 (T rfl rfl) (T rfl rfl) (by omega) (by first | omega | (simp; done) | (simp; omega))) ?_
           refine lw_v (.pointer (some ⟨g16, o17 + (i * 13), none⟩)) (dv_fieldW (g := g16) (o := o17) (i := i * 13) fo52_0 (T rfl rfl)) ?_
           refine lw_v (.pointer (some ⟨g16, o17 + (i * 13 + 4), none⟩)) (dv_fieldW (g := g16) (o := o17) (i := i * 13) fo40_1 (T rfl rfl)) ?_
           refine lw_v (.pointer (some ⟨g16, o17 + (i * 13 + 4), none⟩)) (dv_fieldW (g := g16) (o := o17) (i := i * 13 + 4) fo38_0 (T rfl rfl)) ?_
           refine lw_v (.int .u64 (W' i 4)) (dv_load agt36 (T rfl rfl) (NR.word (i := i) (j := 4) h18 (by first | omega | (simp; done) | (simp; omega)) (by decide))) ?_
           refine lw_v (.int .i64 ((((kk + 1) + 1) + 1) + 1)) (dv_move (T rfl rfl)) ?_
           refine lw_v (.int .u64 ((((kk + 1) + 1) + 1) + 1)) (dv_conv (a := (((kk + 1) + 1) + 1) + 1) (z := (((kk + 1) + 1) + 1) + 1) ui3 ui36 (T rfl rfl) (wn_u64 (by omega) (by omega))) ?_
           refine lw_v (.bool (decide ((W' i 4) ≠ ((((kk + 1) + 1) + 1) + 1)))) (dv_neq (a := W' i 4) (b := (((kk + 1) + 1) + 1) + 1) (T rfl rfl) (T rfl rfl)) ?_
           refine lw_nil ?_
           by_cases hb23 : (W' i 4) ≠ ((((kk + 1) + 1) + 1) + 1)
           · refine rk_ct (T rfl (congrArg Value.bool (decide_eq_true hb23))) ?_
             refine rk_seq ?_
             refine rk_reg ?_
             refine lw_v (.int .i64 (-1)) (dv_assign C) ?_
             refine lw_nil ?_
             refine rk_ret Try.func26 (v := .int .i64 (-1)) (res1 Try.results26 (rv_tmp rfl rfl)) ⟨_, rfl, ?_⟩
             exfalso
             have hw_ := (hmd i (by omega)).1
             have w0_ := hw_ 0 (by decide); have w1_ := hw_ 1 (by decide); have w2_ := hw_ 2 (by decide); have w3_ := hw_ 3 (by decide); have w4_ := hw_ 4 (by decide); have w5_ := hw_ 5 (by decide); have w6_ := hw_ 6 (by decide); have w7_ := hw_ 7 (by decide); have w8_ := hw_ 8 (by decide); have w9_ := hw_ 9 (by decide); have w10_ := hw_ 10 (by decide); have w11_ := hw_ 11 (by decide)
             omega
           · refine rk_cf (T rfl (congrArg Value.bool (decide_eq_false hb23))) ?_
             refine rk_skip ?_
             refine rk_seq ?_
             refine rk_reg ?_
             refine lw_v (.int .i64 ((((kk + 1) + 1) + 1) + 1)) (dv_move (T rfl rfl)) ?_
             refine lw_v (.int .i64 (((((kk + 1) + 1) + 1) + 1) + 1)) (dv_add (a := (((kk + 1) + 1) + 1) + 1) (b := 1) (z := ((((kk + 1) + 1) + 1) + 1) + 1) (T rfl rfl) C (wr_i64 (by omega) (by omega))) ?_
             refine lw_v (.int .i64 (((((kk + 1) + 1) + 1) + 1) + 1)) (dv_assign (T rfl rfl)) ?_
             refine lw_nil ?_
             refine rk_seq ?_
             refine rk_seq ?_
             refine rk_reg ?_
             refine lw_v (.slice (some ⟨g16, o17, none⟩) l cc) (dv_move (T rfl f6)) ?_
             refine lw_v (.int .i64 ((i : Int))) (dv_move (T rfl f8)) ?_
             refine lw_v (.pointer (some ⟨g16, o17 + i * 13, none⟩)) (dv_indexM (g := g16) (o := o17) (l := l) (c := cc) (i := i) (j := (i : Int)) (m := 13) us46 sz52 (T rfl rfl) (T rfl rfl) (by omega) (by first | omega | (simp; done) | (simp; omega))) ?_
             refine lw_v (.pointer (some ⟨g16, o17 + (i * 13), none⟩)) (dv_fieldW (g := g16) (o := o17) (i := i * 13) fo52_0 (T rfl rfl)) ?_
             refine lw_v (.pointer (some ⟨g16, o17 + (i * 13 + 4), none⟩)) (dv_fieldW (g := g16) (o := o17) (i := i * 13) fo40_1 (T rfl rfl)) ?_
             refine lw_v (.pointer (some ⟨g16, o17 + (i * 13 + 5), none⟩)) (dv_fieldW (g := g16) (o := o17) (i := i * 13 + 4) fo38_1 (T rfl rfl)) ?_
             refine lw_v (.int .u64 (W' i 5)) (dv_load agt36 (T rfl rfl) (NR.word (i := i) (j := 5) h18 (by first | omega | (simp; done) | (simp; omega)) (by decide))) ?_
             refine lw_v (.int .i64 (((((kk + 1) + 1) + 1) + 1) + 1)) (dv_move (T rfl rfl)) ?_
             refine lw_v (.int .u64 (((((kk + 1) + 1) + 1) + 1) + 1)) (dv_conv (a := ((((kk + 1) + 1) + 1) + 1) + 1) (z := ((((kk + 1) + 1) + 1) + 1) + 1) ui3 ui36 (T rfl rfl) (wn_u64 (by omega) (by omega))) ?_
             refine lw_v (.bool (decide ((W' i 5) ≠ (((((kk + 1) + 1) + 1) + 1) + 1)))) (dv_neq (a := W' i 5) (b := ((((kk + 1) + 1) + 1) + 1) + 1) (T rfl rfl) (T rfl rfl)) ?_
             refine lw_nil ?_
             by_cases hb24 : (W' i 5) ≠ (((((kk + 1) + 1) + 1) + 1) + 1)
             · refine rk_ct (T rfl (congrArg Value.bool (decide_eq_true hb24))) ?_
               refine rk_seq ?_
               refine rk_reg ?_
               refine lw_v (.int .i64 (-1)) (dv_assign C) ?_
               refine lw_nil ?_
               refine rk_ret Try.func26 (v := .int .i64 (-1)) (res1 Try.results26 (rv_tmp rfl rfl)) ⟨_, rfl, ?_⟩
               exfalso
               have hw_ := (hmd i (by omega)).1
               have w0_ := hw_ 0 (by decide); have w1_ := hw_ 1 (by decide); have w2_ := hw_ 2 (by decide); have w3_ := hw_ 3 (by decide); have w4_ := hw_ 4 (by decide); have w5_ := hw_ 5 (by decide); have w6_ := hw_ 6 (by decide); have w7_ := hw_ 7 (by decide); have w8_ := hw_ 8 (by decide); have w9_ := hw_ 9 (by decide); have w10_ := hw_ 10 (by decide); have w11_ := hw_ 11 (by decide)
               omega
             · refine rk_cf (T rfl (congrArg Value.bool (decide_eq_false hb24))) ?_
               refine rk_skip ?_
               refine rk_seq ?_
               refine rk_reg ?_
               refine lw_v (.int .i64 (((((kk + 1) + 1) + 1) + 1) + 1)) (dv_move (T rfl rfl)) ?_
               refine lw_v (.int .i64 ((((((kk + 1) + 1) + 1) + 1) + 1) + 1)) (dv_add (a := ((((kk + 1) + 1) + 1) + 1) + 1) (b := 1) (z := (((((kk + 1) + 1) + 1) + 1) + 1) + 1) (T rfl rfl) C (wr_i64 (by omega) (by omega))) ?_
               refine lw_v (.int .i64 ((((((kk + 1) + 1) + 1) + 1) + 1) + 1)) (dv_assign (T rfl rfl)) ?_
               refine lw_nil ?_
               refine rk_seq ?_
               refine rk_seq ?_
               refine rk_reg ?_
               refine lw_v (.slice (some ⟨g16, o17, none⟩) l cc) (dv_move (T rfl f6)) ?_
               refine lw_v (.int .i64 ((i : Int))) (dv_move (T rfl f8)) ?_
               refine lw_v (.pointer (some ⟨g16, o17 + i * 13, none⟩)) (dv_indexM (g := g16) (o := o17) (l := l) (c := cc) (i := i) (j := (i : Int)) (m := 13) us46 sz52 (T rfl rfl) (T rfl rfl) (by omega) (by first | omega | (simp; done) | (simp; omega))) ?_
               refine lw_v (.pointer (some ⟨g16, o17 + (i * 13), none⟩)) (dv_fieldW (g := g16) (o := o17) (i := i * 13) fo52_0 (T rfl rfl)) ?_
               refine lw_v (.pointer (some ⟨g16, o17 + (i * 13 + 4), none⟩)) (dv_fieldW (g := g16) (o := o17) (i := i * 13) fo40_1 (T rfl rfl)) ?_
               refine lw_v (.pointer (some ⟨g16, o17 + (i * 13 + 6), none⟩)) (dv_fieldW (g := g16) (o := o17) (i := i * 13 + 4) fo38_2 (T rfl rfl)) ?_
               refine lw_v (.int .u64 (W' i 6)) (dv_load agt36 (T rfl rfl) (NR.word (i := i) (j := 6) h18 (by first | omega | (simp; done) | (simp; omega)) (by decide))) ?_
               refine lw_v (.int .i64 ((((((kk + 1) + 1) + 1) + 1) + 1) + 1)) (dv_move (T rfl rfl)) ?_
               refine lw_v (.int .u64 ((((((kk + 1) + 1) + 1) + 1) + 1) + 1)) (dv_conv (a := (((((kk + 1) + 1) + 1) + 1) + 1) + 1) (z := (((((kk + 1) + 1) + 1) + 1) + 1) + 1) ui3 ui36 (T rfl rfl) (wn_u64 (by omega) (by omega))) ?_
               refine lw_v (.bool (decide ((W' i 6) ≠ ((((((kk + 1) + 1) + 1) + 1) + 1) + 1)))) (dv_neq (a := W' i 6) (b := (((((kk + 1) + 1) + 1) + 1) + 1) + 1) (T rfl rfl) (T rfl rfl)) ?_
               refine lw_nil ?_
               by_cases hb25 : (W' i 6) ≠ ((((((kk + 1) + 1) + 1) + 1) + 1) + 1)
               · refine rk_ct (T rfl (congrArg Value.bool (decide_eq_true hb25))) ?_
                 refine rk_seq ?_
                 refine rk_reg ?_
                 refine lw_v (.int .i64 (-1)) (dv_assign C) ?_
                 refine lw_nil ?_
                 refine rk_ret Try.func26 (v := .int .i64 (-1)) (res1 Try.results26 (rv_tmp rfl rfl)) ⟨_, rfl, ?_⟩
                 exfalso
                 have hw_ := (hmd i (by omega)).1
                 have w0_ := hw_ 0 (by decide); have w1_ := hw_ 1 (by decide); have w2_ := hw_ 2 (by decide); have w3_ := hw_ 3 (by decide); have w4_ := hw_ 4 (by decide); have w5_ := hw_ 5 (by decide); have w6_ := hw_ 6 (by decide); have w7_ := hw_ 7 (by decide); have w8_ := hw_ 8 (by decide); have w9_ := hw_ 9 (by decide); have w10_ := hw_ 10 (by decide); have w11_ := hw_ 11 (by decide)
                 omega
               · refine rk_cf (T rfl (congrArg Value.bool (decide_eq_false hb25))) ?_
                 refine rk_skip ?_
                 refine rk_seq ?_
                 refine rk_reg ?_
                 refine lw_v (.int .i64 ((((((kk + 1) + 1) + 1) + 1) + 1) + 1)) (dv_move (T rfl rfl)) ?_
                 refine lw_v (.int .i64 (((((((kk + 1) + 1) + 1) + 1) + 1) + 1) + 1)) (dv_add (a := (((((kk + 1) + 1) + 1) + 1) + 1) + 1) (b := 1) (z := ((((((kk + 1) + 1) + 1) + 1) + 1) + 1) + 1) (T rfl rfl) C (wr_i64 (by omega) (by omega))) ?_
                 refine lw_v (.int .i64 (((((((kk + 1) + 1) + 1) + 1) + 1) + 1) + 1)) (dv_assign (T rfl rfl)) ?_
                 refine lw_nil ?_
                 refine rk_seq ?_
                 refine rk_seq ?_
                 refine rk_reg ?_
                 refine lw_v (.slice (some ⟨g16, o17, none⟩) l cc) (dv_move (T rfl f6)) ?_
                 refine lw_v (.int .i64 ((i : Int))) (dv_move (T rfl f8)) ?_
                 refine lw_v (.pointer (some ⟨g16, o17 + i * 13, none⟩)) (dv_indexM (g := g16) (o := o17) (l := l) (c := cc) (i := i) (j := (i : Int)) (m := 13) us46 sz52 (T rfl rfl) (T rfl rfl) (by omega) (by first | omega | (simp; done) | (simp; omega))) ?_
                 refine lw_v (.pointer (some ⟨g16, o17 + (i * 13), none⟩)) (dv_fieldW (g := g16) (o := o17) (i := i * 13) fo52_0 (T rfl rfl)) ?_
                 refine lw_v (.pointer (some ⟨g16, o17 + (i * 13 + 4), none⟩)) (dv_fieldW (g := g16) (o := o17) (i := i * 13) fo40_1 (T rfl rfl)) ?_
                 refine lw_v (.pointer (some ⟨g16, o17 + (i * 13 + 7), none⟩)) (dv_fieldW (g := g16) (o := o17) (i := i * 13 + 4) fo38_3 (T rfl rfl)) ?_
                 refine lw_v (.int .u64 (W' i 7)) (dv_load agt36 (T rfl rfl) (NR.word (i := i) (j := 7) h18 (by first | omega | (simp; done) | (simp; omega)) (by decide))) ?_
                 refine lw_v (.int .i64 (((((((kk + 1) + 1) + 1) + 1) + 1) + 1) + 1)) (dv_move (T rfl rfl)) ?_
                 refine lw_v (.int .u64 (((((((kk + 1) + 1) + 1) + 1) + 1) + 1) + 1)) (dv_conv (a := ((((((kk + 1) + 1) + 1) + 1) + 1) + 1) + 1) (z := ((((((kk + 1) + 1) + 1) + 1) + 1) + 1) + 1) ui3 ui36 (T rfl rfl) (wn_u64 (by omega) (by omega))) ?_
                 refine lw_v (.bool (decide ((W' i 7) ≠ (((((((kk + 1) + 1) + 1) + 1) + 1) + 1) + 1)))) (dv_neq (a := W' i 7) (b := ((((((kk + 1) + 1) + 1) + 1) + 1) + 1) + 1) (T rfl rfl) (T rfl rfl)) ?_
                 refine lw_nil ?_
                 by_cases hb26 : (W' i 7) ≠ (((((((kk + 1) + 1) + 1) + 1) + 1) + 1) + 1)
                 · refine rk_ct (T rfl (congrArg Value.bool (decide_eq_true hb26))) ?_
                   refine rk_seq ?_
                   refine rk_reg ?_
                   refine lw_v (.int .i64 (-1)) (dv_assign C) ?_
                   refine lw_nil ?_
                   refine rk_ret Try.func26 (v := .int .i64 (-1)) (res1 Try.results26 (rv_tmp rfl rfl)) ⟨_, rfl, ?_⟩
                   exfalso
                   have hw_ := (hmd i (by omega)).1
                   have w0_ := hw_ 0 (by decide); have w1_ := hw_ 1 (by decide); have w2_ := hw_ 2 (by decide); have w3_ := hw_ 3 (by decide); have w4_ := hw_ 4 (by decide); have w5_ := hw_ 5 (by decide); have w6_ := hw_ 6 (by decide); have w7_ := hw_ 7 (by decide); have w8_ := hw_ 8 (by decide); have w9_ := hw_ 9 (by decide); have w10_ := hw_ 10 (by decide); have w11_ := hw_ 11 (by decide)
                   omega
                 · refine rk_cf (T rfl (congrArg Value.bool (decide_eq_false hb26))) ?_
                   refine rk_skip ?_
                   refine rk_seq ?_
                   refine rk_reg ?_
                   refine lw_v (.int .i64 (((((((kk + 1) + 1) + 1) + 1) + 1) + 1) + 1)) (dv_move (T rfl rfl)) ?_
                   refine lw_v (.int .i64 ((((((((kk + 1) + 1) + 1) + 1) + 1) + 1) + 1) + 1)) (dv_add (a := ((((((kk + 1) + 1) + 1) + 1) + 1) + 1) + 1) (b := 1) (z := (((((((kk + 1) + 1) + 1) + 1) + 1) + 1) + 1) + 1) (T rfl rfl) C (wr_i64 (by omega) (by omega))) ?_
                   refine lw_v (.int .i64 ((((((((kk + 1) + 1) + 1) + 1) + 1) + 1) + 1) + 1)) (dv_assign (T rfl rfl)) ?_
                   refine lw_nil ?_
                   refine rk_seq ?_
                   refine rk_seq ?_
                   refine rk_reg ?_
                   refine lw_v (.slice (some ⟨g16, o17, none⟩) l cc) (dv_move (T rfl f6)) ?_
                   refine lw_v (.int .i64 ((i : Int))) (dv_move (T rfl f8)) ?_
                   refine lw_v (.pointer (some ⟨g16, o17 + i * 13, none⟩)) (dv_indexM (g := g16) (o := o17) (l := l) (c := cc) (i := i) (j := (i : Int)) (m := 13) us46 sz52 (T rfl rfl) (T rfl rfl) (by omega) (by first | omega | (simp; done) | (simp; omega))) ?_
                   refine lw_v (.pointer (some ⟨g16, o17 + (i * 13), none⟩)) (dv_fieldW (g := g16) (o := o17) (i := i * 13) fo52_0 (T rfl rfl)) ?_
                   refine lw_v (.pointer (some ⟨g16, o17 + (i * 13 + 8), none⟩)) (dv_fieldW (g := g16) (o := o17) (i := i * 13) fo40_2 (T rfl rfl)) ?_
                   refine lw_v (.pointer (some ⟨g16, o17 + (i * 13 + 8), none⟩)) (dv_fieldW (g := g16) (o := o17) (i := i * 13 + 8) fo38_0 (T rfl rfl)) ?_
                   refine lw_v (.int .u64 (W' i 8)) (dv_load agt36 (T rfl rfl) (NR.word (i := i) (j := 8) h18 (by first | omega | (simp; done) | (simp; omega)) (by decide))) ?_
                   refine lw_v (.int .i64 ((((((((kk + 1) + 1) + 1) + 1) + 1) + 1) + 1) + 1)) (dv_move (T rfl rfl)) ?_
                   refine lw_v (.int .u64 ((((((((kk + 1) + 1) + 1) + 1) + 1) + 1) + 1) + 1)) (dv_conv (a := (((((((kk + 1) + 1) + 1) + 1) + 1) + 1) + 1) + 1) (z := (((((((kk + 1) + 1) + 1) + 1) + 1) + 1) + 1) + 1) ui3 ui36 (T rfl rfl) (wn_u64 (by omega) (by omega))) ?_
                   refine lw_v (.bool (decide ((W' i 8) ≠ ((((((((kk + 1) + 1) + 1) + 1) + 1) + 1) + 1) + 1)))) (dv_neq (a := W' i 8) (b := (((((((kk + 1) + 1) + 1) + 1) + 1) + 1) + 1) + 1) (T rfl rfl) (T rfl rfl)) ?_
                   refine lw_nil ?_
                   by_cases hb27 : (W' i 8) ≠ ((((((((kk + 1) + 1) + 1) + 1) + 1) + 1) + 1) + 1)
                   · refine rk_ct (T rfl (congrArg Value.bool (decide_eq_true hb27))) ?_
                     refine rk_seq ?_
                     refine rk_reg ?_
                     refine lw_v (.int .i64 (-1)) (dv_assign C) ?_
                     refine lw_nil ?_
                     refine rk_ret Try.func26 (v := .int .i64 (-1)) (res1 Try.results26 (rv_tmp rfl rfl)) ⟨_, rfl, ?_⟩
                     exfalso
                     have hw_ := (hmd i (by omega)).1
                     have w0_ := hw_ 0 (by decide); have w1_ := hw_ 1 (by decide); have w2_ := hw_ 2 (by decide); have w3_ := hw_ 3 (by decide); have w4_ := hw_ 4 (by decide); have w5_ := hw_ 5 (by decide); have w6_ := hw_ 6 (by decide); have w7_ := hw_ 7 (by decide); have w8_ := hw_ 8 (by decide); have w9_ := hw_ 9 (by decide); have w10_ := hw_ 10 (by decide); have w11_ := hw_ 11 (by decide)
                     omega
                   · refine rk_cf (T rfl (congrArg Value.bool (decide_eq_false hb27))) ?_
                     refine rk_skip ?_
                     refine rk_seq ?_
                     refine rk_reg ?_
                     refine lw_v (.int .i64 ((((((((kk + 1) + 1) + 1) + 1) + 1) + 1) + 1) + 1)) (dv_move (T rfl rfl)) ?_
                     refine lw_v (.int .i64 (((((((((kk + 1) + 1) + 1) + 1) + 1) + 1) + 1) + 1) + 1)) (dv_add (a := (((((((kk + 1) + 1) + 1) + 1) + 1) + 1) + 1) + 1) (b := 1) (z := ((((((((kk + 1) + 1) + 1) + 1) + 1) + 1) + 1) + 1) + 1) (T rfl rfl) C (wr_i64 (by omega) (by omega))) ?_
                     refine lw_v (.int .i64 (((((((((kk + 1) + 1) + 1) + 1) + 1) + 1) + 1) + 1) + 1)) (dv_assign (T rfl rfl)) ?_
                     refine lw_nil ?_
                     refine rk_seq ?_
                     refine rk_seq ?_
                     refine rk_reg ?_
                     refine lw_v (.slice (some ⟨g16, o17, none⟩) l cc) (dv_move (T rfl f6)) ?_
                     refine lw_v (.int .i64 ((i : Int))) (dv_move (T rfl f8)) ?_
                     refine lw_v (.pointer (some ⟨g16, o17 + i * 13, none⟩)) (dv_indexM (g := g16) (o := o17) (l := l) (c := cc) (i := i) (j := (i : Int)) (m := 13) us46 sz52 (T rfl rfl) (T rfl rfl) (by omega) (by first | omega | (simp; done) | (simp; omega))) ?_
                     refine lw_v (.pointer (some ⟨g16, o17 + (i * 13), none⟩)) (dv_fieldW (g := g16) (o := o17) (i := i * 13) fo52_0 (T rfl rfl)) ?_
                     refine lw_v (.pointer (some ⟨g16, o17 + (i * 13 + 8), none⟩)) (dv_fieldW (g := g16) (o := o17) (i := i * 13) fo40_2 (T rfl rfl)) ?_
                     refine lw_v (.pointer (some ⟨g16, o17 + (i * 13 + 9), none⟩)) (dv_fieldW (g := g16) (o := o17) (i := i * 13 + 8) fo38_1 (T rfl rfl)) ?_
                     refine lw_v (.int .u64 (W' i 9)) (dv_load agt36 (T rfl rfl) (NR.word (i := i) (j := 9) h18 (by first | omega | (simp; done) | (simp; omega)) (by decide))) ?_
                     refine lw_v (.int .i64 (((((((((kk + 1) + 1) + 1) + 1) + 1) + 1) + 1) + 1) + 1)) (dv_move (T rfl rfl)) ?_
                     refine lw_v (.int .u64 (((((((((kk + 1) + 1) + 1) + 1) + 1) + 1) + 1) + 1) + 1)) (dv_conv (a := ((((((((kk + 1) + 1) + 1) + 1) + 1) + 1) + 1) + 1) + 1) (z := ((((((((kk + 1) + 1) + 1) + 1) + 1) + 1) + 1) + 1) + 1) ui3 ui36 (T rfl rfl) (wn_u64 (by omega) (by omega))) ?_
                     refine lw_v (.bool (decide ((W' i 9) ≠ (((((((((kk + 1) + 1) + 1) + 1) + 1) + 1) + 1) + 1) + 1)))) (dv_neq (a := W' i 9) (b := ((((((((kk + 1) + 1) + 1) + 1) + 1) + 1) + 1) + 1) + 1) (T rfl rfl) (T rfl rfl)) ?_
                     refine lw_nil ?_
                     by_cases hb28 : (W' i 9) ≠ (((((((((kk + 1) + 1) + 1) + 1) + 1) + 1) + 1) + 1) + 1)
                     · refine rk_ct (T rfl (congrArg Value.bool (decide_eq_true hb28))) ?_
                       refine rk_seq ?_
                       refine rk_reg ?_
                       refine lw_v (.int .i64 (-1)) (dv_assign C) ?_
                       refine lw_nil ?_
                       refine rk_ret Try.func26 (v := .int .i64 (-1)) (res1 Try.results26 (rv_tmp rfl rfl)) ⟨_, rfl, ?_⟩
                       exfalso
                       have hw_ := (hmd i (by omega)).1
                       have w0_ := hw_ 0 (by decide); have w1_ := hw_ 1 (by decide); have w2_ := hw_ 2 (by decide); have w3_ := hw_ 3 (by decide); have w4_ := hw_ 4 (by decide); have w5_ := hw_ 5 (by decide); have w6_ := hw_ 6 (by decide); have w7_ := hw_ 7 (by decide); have w8_ := hw_ 8 (by decide); have w9_ := hw_ 9 (by decide); have w10_ := hw_ 10 (by decide); have w11_ := hw_ 11 (by decide)
                       omega
                     · refine rk_cf (T rfl (congrArg Value.bool (decide_eq_false hb28))) ?_
                       refine rk_skip ?_
                       refine rk_seq ?_
                       refine rk_reg ?_
                       refine lw_v (.int .i64 (((((((((kk + 1) + 1) + 1) + 1) + 1) + 1) + 1) + 1) + 1)) (dv_move (T rfl rfl)) ?_
                       refine lw_v (.int .i64 ((((((((((kk + 1) + 1) + 1) + 1) + 1) + 1) + 1) + 1) + 1) + 1)) (dv_add (a := ((((((((kk + 1) + 1) + 1) + 1) + 1) + 1) + 1) + 1) + 1) (b := 1) (z := (((((((((kk + 1) + 1) + 1) + 1) + 1) + 1) + 1) + 1) + 1) + 1) (T rfl rfl) C (wr_i64 (by omega) (by omega))) ?_
                       refine lw_v (.int .i64 ((((((((((kk + 1) + 1) + 1) + 1) + 1) + 1) + 1) + 1) + 1) + 1)) (dv_assign (T rfl rfl)) ?_
                       refine lw_nil ?_
                       refine rk_seq ?_
                       refine rk_seq ?_
                       refine rk_reg ?_
                       refine lw_v (.slice (some ⟨g16, o17, none⟩) l cc) (dv_move (T rfl f6)) ?_
                       refine lw_v (.int .i64 ((i : Int))) (dv_move (T rfl f8)) ?_
                       refine lw_v (.pointer (some ⟨g16, o17 + i * 13, none⟩)) (dv_indexM (g := g16) (o := o17) (l := l) (c := cc) (i := i) (j := (i : Int)) (m := 13) us46 sz52 (T rfl rfl) (T rfl rfl) (by omega) (by first | omega | (simp; done) | (simp; omega))) ?_
                       refine lw_v (.pointer (some ⟨g16, o17 + (i * 13), none⟩)) (dv_fieldW (g := g16) (o := o17) (i := i * 13) fo52_0 (T rfl rfl)) ?_
                       refine lw_v (.pointer (some ⟨g16, o17 + (i * 13 + 8), none⟩)) (dv_fieldW (g := g16) (o := o17) (i := i * 13) fo40_2 (T rfl rfl)) ?_
                       refine lw_v (.pointer (some ⟨g16, o17 + (i * 13 + 10), none⟩)) (dv_fieldW (g := g16) (o := o17) (i := i * 13 + 8) fo38_2 (T rfl rfl)) ?_
                       refine lw_v (.int .u64 (W' i 10)) (dv_load agt36 (T rfl rfl) (NR.word (i := i) (j := 10) h18 (by first | omega | (simp; done) | (simp; omega)) (by decide))) ?_
                       refine lw_v (.int .i64 ((((((((((kk + 1) + 1) + 1) + 1) + 1) + 1) + 1) + 1) + 1) + 1)) (dv_move (T rfl rfl)) ?_
                       refine lw_v (.int .u64 ((((((((((kk + 1) + 1) + 1) + 1) + 1) + 1) + 1) + 1) + 1) + 1)) (dv_conv (a := (((((((((kk + 1) + 1) + 1) + 1) + 1) + 1) + 1) + 1) + 1) + 1) (z := (((((((((kk + 1) + 1) + 1) + 1) + 1) + 1) + 1) + 1) + 1) + 1) ui3 ui36 (T rfl rfl) (wn_u64 (by omega) (by omega))) ?_
                       refine lw_v (.bool (decide ((W' i 10) ≠ ((((((((((kk + 1) + 1) + 1) + 1) + 1) + 1) + 1) + 1) + 1) + 1)))) (dv_neq (a := W' i 10) (b := (((((((((kk + 1) + 1) + 1) + 1) + 1) + 1) + 1) + 1) + 1) + 1) (T rfl rfl) (T rfl rfl)) ?_
                       refine lw_nil ?_
                       by_cases hb29 : (W' i 10) ≠ ((((((((((kk + 1) + 1) + 1) + 1) + 1) + 1) + 1) + 1) + 1) + 1)
                       · refine rk_ct (T rfl (congrArg Value.bool (decide_eq_true hb29))) ?_
                         refine rk_seq ?_
                         refine rk_reg ?_
                         refine lw_v (.int .i64 (-1)) (dv_assign C) ?_
                         refine lw_nil ?_
                         refine rk_ret Try.func26 (v := .int .i64 (-1)) (res1 Try.results26 (rv_tmp rfl rfl)) ⟨_, rfl, ?_⟩
                         exfalso
                         have hw_ := (hmd i (by omega)).1
                         have w0_ := hw_ 0 (by decide); have w1_ := hw_ 1 (by decide); have w2_ := hw_ 2 (by decide); have w3_ := hw_ 3 (by decide); have w4_ := hw_ 4 (by decide); have w5_ := hw_ 5 (by decide); have w6_ := hw_ 6 (by decide); have w7_ := hw_ 7 (by decide); have w8_ := hw_ 8 (by decide); have w9_ := hw_ 9 (by decide); have w10_ := hw_ 10 (by decide); have w11_ := hw_ 11 (by decide)
                         omega
                       · refine rk_cf (T rfl (congrArg Value.bool (decide_eq_false hb29))) ?_
                         refine rk_skip ?_
                         refine rk_seq ?_
                         refine rk_reg ?_
                         refine lw_v (.int .i64 ((((((((((kk + 1) + 1) + 1) + 1) + 1) + 1) + 1) + 1) + 1) + 1)) (dv_move (T rfl rfl)) ?_
                         refine lw_v (.int .i64 (((((((((((kk + 1) + 1) + 1) + 1) + 1) + 1) + 1) + 1) + 1) + 1) + 1)) (dv_add (a := (((((((((kk + 1) + 1) + 1) + 1) + 1) + 1) + 1) + 1) + 1) + 1) (b := 1) (z := ((((((((((kk + 1) + 1) + 1) + 1) + 1) + 1) + 1) + 1) + 1) + 1) + 1) (T rfl rfl) C (wr_i64 (by omega) (by omega))) ?_
                         refine lw_v (.int .i64 (((((((((((kk + 1) + 1) + 1) + 1) + 1) + 1) + 1) + 1) + 1) + 1) + 1)) (dv_assign (T rfl rfl)) ?_
                         refine lw_nil ?_
                         refine rk_seq ?_
                         refine rk_seq ?_
                         refine rk_reg ?_
                         refine lw_v (.slice (some ⟨g16, o17, none⟩) l cc) (dv_move (T rfl f6)) ?_
                         refine lw_v (.int .i64 ((i : Int))) (dv_move (T rfl f8)) ?_
                         refine lw_v (.pointer (some ⟨g16, o17 + i * 13, none⟩)) (dv_indexM (g := g16) (o := o17) (l := l) (c := cc) (i := i) (j := (i : Int)) (m := 13) us46 sz52 (T rfl rfl) (T rfl rfl) (by omega) (by first | omega | (simp; done) | (simp; omega))) ?_
                         refine lw_v (.pointer (some ⟨g16, o17 + (i * 13), none⟩)) (dv_fieldW (g := g16) (o := o17) (i := i * 13) fo52_0 (T rfl rfl)) ?_
                         refine lw_v (.pointer (some ⟨g16, o17 + (i * 13 + 8), none⟩)) (dv_fieldW (g := g16) (o := o17) (i := i * 13) fo40_2 (T rfl rfl)) ?_
                         refine lw_v (.pointer (some ⟨g16, o17 + (i * 13 + 11), none⟩)) (dv_fieldW (g := g16) (o := o17) (i := i * 13 + 8) fo38_3 (T rfl rfl)) ?_
                         refine lw_v (.int .u64 (W' i 11)) (dv_load agt36 (T rfl rfl) (NR.word (i := i) (j := 11) h18 (by first | omega | (simp; done) | (simp; omega)) (by decide))) ?_
                         refine lw_v (.int .i64 (((((((((((kk + 1) + 1) + 1) + 1) + 1) + 1) + 1) + 1) + 1) + 1) + 1)) (dv_move (T rfl rfl)) ?_
                         refine lw_v (.int .u64 (((((((((((kk + 1) + 1) + 1) + 1) + 1) + 1) + 1) + 1) + 1) + 1) + 1)) (dv_conv (a := ((((((((((kk + 1) + 1) + 1) + 1) + 1) + 1) + 1) + 1) + 1) + 1) + 1) (z := ((((((((((kk + 1) + 1) + 1) + 1) + 1) + 1) + 1) + 1) + 1) + 1) + 1) ui3 ui36 (T rfl rfl) (wn_u64 (by omega) (by omega))) ?_
                         refine lw_v (.bool (decide ((W' i 11) ≠ (((((((((((kk + 1) + 1) + 1) + 1) + 1) + 1) + 1) + 1) + 1) + 1) + 1)))) (dv_neq (a := W' i 11) (b := ((((((((((kk + 1) + 1) + 1) + 1) + 1) + 1) + 1) + 1) + 1) + 1) + 1) (T rfl rfl) (T rfl rfl)) ?_
                         refine lw_nil ?_
                         by_cases hb30 : (W' i 11) ≠ (((((((((((kk + 1) + 1) + 1) + 1) + 1) + 1) + 1) + 1) + 1) + 1) + 1)
                         · refine rk_ct (T rfl (congrArg Value.bool (decide_eq_true hb30))) ?_
                           refine rk_seq ?_
                           refine rk_reg ?_
                           refine lw_v (.int .i64 (-1)) (dv_assign C) ?_
                           refine lw_nil ?_
                           refine rk_ret Try.func26 (v := .int .i64 (-1)) (res1 Try.results26 (rv_tmp rfl rfl)) ⟨_, rfl, ?_⟩
                           exfalso
                           have hw_ := (hmd i (by omega)).1
                           have w0_ := hw_ 0 (by decide); have w1_ := hw_ 1 (by decide); have w2_ := hw_ 2 (by decide); have w3_ := hw_ 3 (by decide); have w4_ := hw_ 4 (by decide); have w5_ := hw_ 5 (by decide); have w6_ := hw_ 6 (by decide); have w7_ := hw_ 7 (by decide); have w8_ := hw_ 8 (by decide); have w9_ := hw_ 9 (by decide); have w10_ := hw_ 10 (by decide); have w11_ := hw_ 11 (by decide)
                           omega
                         · refine rk_cf (T rfl (congrArg Value.bool (decide_eq_false hb30))) ?_
                           refine rk_skip ?_
                           refine rk_seq ?_
                           refine rk_reg ?_
                           refine lw_v (.int .i64 (((((((((((kk + 1) + 1) + 1) + 1) + 1) + 1) + 1) + 1) + 1) + 1) + 1)) (dv_move (T rfl rfl)) ?_
                           refine lw_v (.int .i64 ((((((((((((kk + 1) + 1) + 1) + 1) + 1) + 1) + 1) + 1) + 1) + 1) + 1) + 1)) (dv_add (a := ((((((((((kk + 1) + 1) + 1) + 1) + 1) + 1) + 1) + 1) + 1) + 1) + 1) (b := 1) (z := (((((((((((kk + 1) + 1) + 1) + 1) + 1) + 1) + 1) + 1) + 1) + 1) + 1) + 1) (T rfl rfl) C (wr_i64 (by omega) (by omega))) ?_
                           refine lw_v (.int .i64 ((((((((((((kk + 1) + 1) + 1) + 1) + 1) + 1) + 1) + 1) + 1) + 1) + 1) + 1)) (dv_assign (T rfl rfl)) ?_
                           refine lw_nil ?_
                           refine rk_seq ?_
                           refine rk_reg ?_
                           refine lw_v (.slice (some ⟨g16, o17, none⟩) l cc) (dv_move (T rfl f6)) ?_
                           refine lw_v (.int .i64 ((i : Int))) (dv_move (T rfl f8)) ?_
                           refine lw_v (.pointer (some ⟨g16, o17 + i * 13, none⟩)) (dv_indexM (g := g16) (o := o17) (l := l) (c := cc) (i := i) (j := (i : Int)) (m := 13) us46 sz52 (T rfl rfl) (T rfl rfl) (by omega) (by first | omega | (simp; done) | (simp; omega))) ?_
                           refine lw_v (.pointer (some ⟨g16, o17 + (i * 13 + 12), none⟩)) (dv_fieldW (g := g16) (o := o17) (i := i * 13) fo52_1 (T rfl rfl)) ?_
                           refine lw_v (.slice As11 ((E' i).length) cs12) (dv_load agt50 (T rfl rfl) (NR.slA (i := i) h18 (by first | omega | (simp; done) | (simp; omega)) hAs13 hcs14)) ?_
                           refine lw_v (.int .i64 ((((((((((((kk + 1) + 1) + 1) + 1) + 1) + 1) + 1) + 1) + 1) + 1) + 1) + 1)) (dv_move (T rfl rfl)) ?_
                           refine lw_e (oe_callf (vs := [.slice As11 ((E' i).length) cs12, .int .i64 ((((((((((((kk + 1) + 1) + 1) + 1) + 1) + 1) + 1) + 1) + 1) + 1) + 1) + 1)]) co36 (ar2 (T rfl rfl) (T rfl rfl)) (heldInt64S_ok (n := (E' i).length) (c := cs12) (xs := E' i) (k := (((((((((((kk + 1) + 1) + 1) + 1) + 1) + 1) + 1) + 1) + 1) + 1) + 1) + 1) (NR.rdA (i := i) h18 (by first | omega | (simp; done) | (simp; omega)) hAs13) rfl (by first | omega | (simp; done) | (simp; omega)) (mkd_held hmd hlen (i := i) (by omega) (by omega)) (by omega)) ?_)
                           rintro _ w31 ⟨rfl, e32⟩
                           have E33 := below_ext E9 E9.size e32
                           refine lw_v (.int .i64 (((((((((((((kk + 1) + 1) + 1) + 1) + 1) + 1) + 1) + 1) + 1) + 1) + 1) + 1) + ((E' i).length : Int))) (dv_assign (T rfl rfl)) ?_
                           refine lw_nil ?_
                           refine rk_seq ?_
                           refine rk_reg ?_
                           refine lw_v (.int .i64 (((((((((((((kk + 1) + 1) + 1) + 1) + 1) + 1) + 1) + 1) + 1) + 1) + 1) + 1) + ((E' i).length : Int))) (dv_move (T rfl rfl)) ?_
                           refine lw_v (.bool (decide ((((((((((((((kk + 1) + 1) + 1) + 1) + 1) + 1) + 1) + 1) + 1) + 1) + 1) + 1) + ((E' i).length : Int)) < 0))) (dv_lss (a := ((((((((((((kk + 1) + 1) + 1) + 1) + 1) + 1) + 1) + 1) + 1) + 1) + 1) + 1) + ((E' i).length : Int)) (b := 0) (T rfl rfl) C) ?_
                           refine lw_nil ?_
                           by_cases hb34 : (((((((((((((kk + 1) + 1) + 1) + 1) + 1) + 1) + 1) + 1) + 1) + 1) + 1) + 1) + ((E' i).length : Int)) < 0
                           · refine rk_ct (T rfl (congrArg Value.bool (decide_eq_true hb34))) ?_
                             refine rk_seq ?_
                             refine rk_reg ?_
                             refine lw_v (.int .i64 (-1)) (dv_assign C) ?_
                             refine lw_nil ?_
                             refine rk_ret Try.func26 (v := .int .i64 (-1)) (res1 Try.results26 (rv_tmp rfl rfl)) ⟨_, rfl, ?_⟩
                             exfalso
                             have hw_ := (hmd i (by omega)).1
                             have w0_ := hw_ 0 (by decide); have w1_ := hw_ 1 (by decide); have w2_ := hw_ 2 (by decide); have w3_ := hw_ 3 (by decide); have w4_ := hw_ 4 (by decide); have w5_ := hw_ 5 (by decide); have w6_ := hw_ 6 (by decide); have w7_ := hw_ 7 (by decide); have w8_ := hw_ 8 (by decide); have w9_ := hw_ 9 (by decide); have w10_ := hw_ 10 (by decide); have w11_ := hw_ 11 (by decide)
                             omega
                           · refine rk_cf (T rfl (congrArg Value.bool (decide_eq_false hb34))) ?_
                             refine rk_skip ?_
                             refine rk_inBlock ?_
                             refine rk_reg ?_
                             refine lw_v (.int .i64 ((i : Int))) (dv_move (T rfl f8)) ?_
                             refine lw_v (.int .i64 (((i : Int)) + 1)) (dv_add (a := (i : Int)) (b := 1) (z := ((i : Int)) + 1) (T rfl rfl) C (wr_i64 (by omega) (by omega))) ?_
                             refine lw_v (.int .i64 (((i : Int)) + 1)) (dv_assign (T rfl rfl)) ?_
                             refine lw_nil ?_
                             exact ih3 (l - ((i + 1))) _ _ (by rw [hd10]; omega) ⟨(i + 1), (((((((((((((kk + 1) + 1) + 1) + 1) + 1) + 1) + 1) + 1) + 1) + 1) + 1) + 1) + ((E' i).length : Int)), rfl, f6, (rfl), (vi (by omega)), E33, (by omega), (by rw [kAt_s]; omega)⟩
 · refine rk_cf (T rfl (congrArg Value.bool (decide_eq_false hb15))) ?_
   refine rk_exit rfl ?_
   refine rk_seq ?_
   refine rk_reg ?_
   refine lw_v (.int .i64 kk) (dv_move (T rfl f7)) ?_
   refine lw_v (.int .i64 kk) (dv_assign (T rfl rfl)) ?_
   refine lw_nil ?_
   refine rk_ret Try.func26 (v := .int .i64 kk) (res1 Try.results26 (rv_tmp rfl rfl)) ⟨_, rfl, ?_⟩
   obtain rfl : i = l := by omega
   exact ⟨vi hkk, E9⟩
end Go.Proofs.Ytmbpomcbdopgnaa.W
set_option linter.unusedVariables false
set_option linter.unusedSimpArgs false
namespace Go.Proofs.Ytmbpomcbdopgnaa.W
open Go Go.RowKit Go.Proofs.Ytmbpomcbdopgnaa.Fw
attribute [local irreducible] RunK LW AW DV OE Ct
theorem co106 : callOk Try.prog 106 = true := by kernel_rfl
theorem pl52 : placesB Try.prog 52 = some [(0, 12), (12, 1)] := by kernel_rfl
theorem zc52 : zcB Try.prog 52 = some [.int .u64 0, .int .u64 0, .int .u64 0, .int .u64 0, .int .u64 0, .int .u64 0, .int .u64 0, .int .u64 0, .int .u64 0, .int .u64 0, .int .u64 0, .int .u64 0, .slice none 0 0] := by kernel_rfl
theorem cloneI_ok {w : World} {A : Option Addr} {l c : Nat} {xs : List Int} (hx : RdI w .i64 A xs) (hl : xs.length = l) (hbd : l ≤ 1048576) (hp : 0 < l) : Ct Try.prog 106 [.slice A l c] w fun v w1 => ∃ A2 c2, v = .slice A2 l c2 ∧ Ext w w1 ∧ Ow w1 w.heap.size 2 .i64 A2 c2 xs := by
 obtain ⟨g, o, rfl⟩ := hx.at (by omega)
 obtain ⟨i0, hi0, hi⟩ : ∃ i0, Try.prog.info? 2 = some i0 ∧ (i0.zero, i0.size, i0.bytes) = (some (.int .i64 0), 1, 8) := by
  have h := in2
  cases hi : Try.prog.info? 2 with
  | none => rw [hi] at h; cases h
  | some i0 => rw [hi] at h; exact ⟨i0, rfl, by simpa using h⟩
 simp only [Prod.mk.injEq] at hi
 unfold Ct
 refine Calls.mono (Try.slices_Clone_f106 i0 _ 1 8 hi0 hi.1 hi.2.1 hi.2.2 rfl (by decide) (fun w => Fw.run_sizeOf sz2) g o l c (xs.map (Value.int .i64)) w (by simp [hl]) (by simp only [maxLen]; omega) (by omega) (fun j u hj => ?_) (ints_oneCell .i64 xs)) fun e w' ⟨v', he, ho, hne, hb⟩ => ?_
 · rw [List.getElem?_map] at hj
   cases hxj : xs[j]? with
   | none => rw [hxj] at hj; cases hj
   | some x =>
    rw [hxj] at hj
    have hjl : j < xs.length := (List.getElem?_eq_some_iff.1 hxj).1
    have h1 := hx.cell hjl
    rw [h1, ← hj]
    simp [List.getD_eq_getElem?_getD, hxj]
 · subst hl
   obtain ⟨A', c', rfl⟩ := own_slice ho
   exact ⟨_, he, A', c', rfl, hb, ho, hb.size⟩
set_option maxHeartbeats 1000000 in
theorem copyEvents_ok {w : World} {A : Option Addr} {l c : Nat} {Q : Nat → Ev} {SL : SlF} {lo hi : Nat} (hx : NR w lo hi A l (fun i_ => evW (Q i_)) (fun i_ => (Q i_).es) SL) (hxb : l ≤ 1048576) (hxf : evF l Q) (hne : ∀ i, i < l → 0 < (Q i).es.length) (hl2 : l ≤ 200) : Ct Try.prog 59 [.slice A l c] w fun v w1 => ∃ A2 c2 S2, v = .slice A2 l c2 ∧ Ext w w1 ∧ l ≤ c2 ∧ NO w1 w.heap.size w1.heap.size (-1) 52 2 A2 l l (fun i_ => evW (Q i_)) (fun i_ => (Q i_).es) S2 := by
 refine ct_run (n := 24) Try.func59 rfl Try.ntmps59 rfl ?_
 have E0 : Below w.heap.size w w := Below.refl _ _
 have hhi := hx.lh
 refine rk_seq ?_
 refine rk_reg ?_
 refine lw_v (.slice none 0 0) (dv_assign C) ?_
 refine lw_nil ?_
 refine rk_seq ?_
 refine rk_reg ?_
 refine lw_e (oe_buildSlice0 us46 sz52 ?_)
 intro b1 w2 n3
 have N5 : w.heap.size ≤ b1 := n3.eq ▸ E0.size
 have := Below.fresh n3.ext
 have E6 := below_ext E0 E0.size n3.ext
 have hN4 := NG.made (T' := 2) (W := fun i_ => evW (Q i_)) (E := fun i_ => (Q i_).es) (SL := fun _ => (none, 0)) n3
 refine lw_v (.slice (some ⟨b1, 0, none⟩) 0 0) (dv_assign (T rfl rfl)) ?_
 refine lw_nil ?_
 refine rk_seq ?_
 refine rk_seq ?_
 refine rk_reg ?_
 refine lw_v (.slice A l c) (dv_move (T rfl rfl)) ?_
 refine lw_v (.int .i64 ((l : Int))) (dv_len (ad := A) (l := l) (c := c) us46 (T rfl rfl)) ?_
 refine lw_v (.int .i64 0) (dv_move C) ?_
 refine lw_nil ?_
 refine rk_block ?_
 refine rk_loop (fun dm_ fr wl => ∃ (i : Nat) (S : SlF) (A2 : Option Addr) (c2 : Nat), dm_ = l - i ∧ fr 2 = .slice none 0 0 ∧ fr 3 = .slice A2 i c2 ∧ fr 7 = .slice A l c ∧ fr 8 = .int .i64 ((l : Int)) ∧ fr 9 = .int .i64 ((i : Int)) ∧ Below w.heap.size w wl ∧ NG wl b1 wl.heap.size 52 2 A2 i c2 (fun i_ => evW (Q i_)) (fun i_ => (Q i_).es) S ∧ (i ≤ l)) (l - 0) ⟨0, (fun _ => (none, 0)), (some ⟨b1, 0, none⟩), 0, rfl, rfl, rfl, rfl, rfl, (vi (by omega)), E6, hN4, (Nat.zero_le _)⟩ ?_
 intro d11 fr10 w7 hI8 ih9
 obtain ⟨i, S, A2, c2, hd19, f12, f13, f14, f15, f16, E17, h18, hi_⟩ := hI8
 obtain ⟨As20, hAs22⟩ : ∃ q_ : Option Addr, q_ = (SL i).1 := ⟨_, rfl⟩
 obtain ⟨cs21, hcs23⟩ : ∃ q_ : Nat, q_ = (SL i).2 := ⟨_, rfl⟩
 have hen : i < l → (Q i).es.length ≤ 1048576 ∧ 0 < (Q i).es.length := fun h_ => ⟨evF.n hxf h_, hne i h_⟩
 refine rk_seq ?_
 refine rk_reg ?_
 refine lw_v (.bool (decide (((i : Int)) < ((l : Int))))) (dv_lss (a := (i : Int)) (b := (l : Int)) (T rfl f16) (T rfl f15)) ?_
 refine lw_nil ?_
 refine rk_seq ?_
 by_cases hb24 : ((i : Int)) < ((l : Int))
 · refine rk_ct (T rfl (congrArg Value.bool (decide_eq_true hb24))) ?_
   refine rk_skip ?_
   refine rk_seq ?_
   refine rk_block ?_
   refine rk_seq ?_
   refine rk_reg ?_
   have h27 := (hx.ext E17)
   obtain ⟨g25, o26, rfl⟩ := NR.at h27 (by first | omega | (simp; done) | (simp; omega))
   refine lw_v (.pointer (some ⟨g25, o26 + i * 13, none⟩)) (dv_indexM (g := g25) (o := o26) (l := l) (c := c) (i := i) (j := (i : Int)) (m := 13) us46 sz52 (T rfl f14) (T rfl f16) (by omega) (by first | omega | (simp; done) | (simp; omega))) ?_
   refine lw_v (.agg #[.int .u64 (wv3 ((Q i).x)), .int .u64 (wv2 ((Q i).x)), .int .u64 (wv1 ((Q i).x)), .int .u64 (wv0 ((Q i).x)), .int .u64 (wv3 ((Q i).y)), .int .u64 (wv2 ((Q i).y)), .int .u64 (wv1 ((Q i).y)), .int .u64 (wv0 ((Q i).y)), .int .u64 (wv3 ((Q i).u)), .int .u64 (wv2 ((Q i).u)), .int .u64 (wv1 ((Q i).u)), .int .u64 (wv0 ((Q i).u)), .slice As20 ((Q i).es.length) cs21]) (dv_loadsR (l := [.int .u64 (wv3 ((Q i).x)), .int .u64 (wv2 ((Q i).x)), .int .u64 (wv1 ((Q i).x)), .int .u64 (wv0 ((Q i).x)), .int .u64 (wv3 ((Q i).y)), .int .u64 (wv2 ((Q i).y)), .int .u64 (wv1 ((Q i).y)), .int .u64 (wv0 ((Q i).y)), .int .u64 (wv3 ((Q i).u)), .int .u64 (wv2 ((Q i).u)), .int .u64 (wv1 ((Q i).u)), .int .u64 (wv0 ((Q i).u)), .slice As20 ((Q i).es.length) cs21]) agt52 sz52 (T rfl rfl) rfl (NR.evA (i := i) h27 (by first | omega | (simp; done) | (simp; omega)) hAs22 hcs23)) ?_
   refine lw_e (oe_alloc ze52 ?_)
   intro b28 w29 n30
   have N31 : w.heap.size ≤ b28 := n30.eq ▸ E17.size
   have := n30.eq; have := n30.size
   have := Below.fresh n30.ext
   have E32 := below_ext E17 E17.size n30.ext
   refine lw_e (oe_store (v := .agg #[.int .u64 (wv3 ((Q i).x)), .int .u64 (wv2 ((Q i).x)), .int .u64 (wv1 ((Q i).x)), .int .u64 (wv0 ((Q i).x)), .int .u64 (wv3 ((Q i).y)), .int .u64 (wv2 ((Q i).y)), .int .u64 (wv1 ((Q i).y)), .int .u64 (wv0 ((Q i).y)), .int .u64 (wv3 ((Q i).u)), .int .u64 (wv2 ((Q i).u)), .int .u64 (wv1 ((Q i).u)), .int .u64 (wv0 ((Q i).u)), .slice As20 ((Q i).es.length) cs21]) (vs := [.int .u64 (wv3 ((Q i).x)), .int .u64 (wv2 ((Q i).x)), .int .u64 (wv1 ((Q i).x)), .int .u64 (wv0 ((Q i).x)), .int .u64 (wv3 ((Q i).y)), .int .u64 (wv2 ((Q i).y)), .int .u64 (wv1 ((Q i).y)), .int .u64 (wv0 ((Q i).y)), .int .u64 (wv3 ((Q i).u)), .int .u64 (wv2 ((Q i).u)), .int .u64 (wv1 ((Q i).u)), .int .u64 (wv0 ((Q i).u)), .slice As20 ((Q i).es.length) cs21]) (l := [.int .u64 (wv3 ((Q i).x)), .int .u64 (wv2 ((Q i).x)), .int .u64 (wv1 ((Q i).x)), .int .u64 (wv0 ((Q i).x)), .int .u64 (wv3 ((Q i).y)), .int .u64 (wv2 ((Q i).y)), .int .u64 (wv1 ((Q i).y)), .int .u64 (wv0 ((Q i).y)), .int .u64 (wv3 ((Q i).u)), .int .u64 (wv2 ((Q i).u)), .int .u64 (wv1 ((Q i).u)), .int .u64 (wv0 ((Q i).u)), .slice As20 ((Q i).es.length) cs21]) (T rfl rfl) (T rfl rfl) sz52 rfl rfl rfl n30.blk rfl ?_)
   intro w33 s34 H35
   have := s34.size
   have E36 := below_st E32 N31 s34
   refine lw_nil ?_
   refine rk_any (fun w => w.heap[b28]? = some (.cells #[.int .u64 (wv3 ((Q i).x)), .int .u64 (wv2 ((Q i).x)), .int .u64 (wv1 ((Q i).x)), .int .u64 (wv0 ((Q i).x)), .int .u64 (wv3 ((Q i).y)), .int .u64 (wv2 ((Q i).y)), .int .u64 (wv1 ((Q i).y)), .int .u64 (wv0 ((Q i).y)), .int .u64 (wv3 ((Q i).u)), .int .u64 (wv2 ((Q i).u)), .int .u64 (wv1 ((Q i).u)), .int .u64 (wv0 ((Q i).u)), .slice As20 ((Q i).es.length) cs21] 52)) [9] mo ?_
   intro w37 d38
   have := Below.fresh d38.ext
   have E39 := below_ext E36 E36.size d38.ext
   have H40 := (d38.ext.blk H35)
   refine aw_pure 0 (.slice A2 i c2) rfl (by kernel_rfl) .none H40 (fun _ => dv_move (T rfl f13)) ?_
   refine aw_pure 1 (.pointer (some ⟨b28, 0, none⟩)) rfl (by kernel_rfl) .none H40 (fun _ => dv_fieldAddr (a := ⟨b28, 0, none⟩) (a' := ⟨b28, 0, none⟩) fo52_0 (T rfl rfl) rfl) ?_
   refine aw_load 2 (.agg #[.int .u64 (wv3 ((Q i).x)), .int .u64 (wv2 ((Q i).x)), .int .u64 (wv1 ((Q i).x)), .int .u64 (wv0 ((Q i).x)), .int .u64 (wv3 ((Q i).y)), .int .u64 (wv2 ((Q i).y)), .int .u64 (wv1 ((Q i).y)), .int .u64 (wv0 ((Q i).y)), .int .u64 (wv3 ((Q i).u)), .int .u64 (wv2 ((Q i).u)), .int .u64 (wv1 ((Q i).u)), .int .u64 (wv0 ((Q i).u))]) rfl (by kernel_rfl) .none H40 (fun _ s => dv_loads (l := [.int .u64 (wv3 ((Q i).x)), .int .u64 (wv2 ((Q i).x)), .int .u64 (wv1 ((Q i).x)), .int .u64 (wv0 ((Q i).x)), .int .u64 (wv3 ((Q i).y)), .int .u64 (wv2 ((Q i).y)), .int .u64 (wv1 ((Q i).y)), .int .u64 (wv0 ((Q i).y)), .int .u64 (wv3 ((Q i).u)), .int .u64 (wv2 ((Q i).u)), .int .u64 (wv1 ((Q i).u)), .int .u64 (wv0 ((Q i).u))]) agt40 sz40 (T rfl rfl) s rfl) ?_
   refine aw_pure 3 (.pointer (some ⟨b28, 12, none⟩)) rfl (by kernel_rfl) .none H40 (fun _ => dv_fieldAddr (a := ⟨b28, 0, none⟩) (a' := ⟨b28, 12, none⟩) fo52_1 (T rfl rfl) rfl) ?_
   refine aw_load 4 (.slice As20 ((Q i).es.length) cs21) rfl (by kernel_rfl) .none H40 (fun _ s => dv_load1 (b := b28) (o := 12) agt50 (T rfl rfl) s rfl) ?_
   have h41 := (((h27.ext n30.ext).st s34 (by omega)).ext d38.ext)
   refine aw_one 5 rfl (by kernel_rfl) .none (oe_callf (vs := [.slice As20 ((Q i).es.length) cs21]) co106 (ar1 (T rfl rfl)) (cloneI_ok (c := cs21) (NR.rdA (i := i) h41 (by first | omega | (simp; done) | (simp; omega)) hAs22) (by first | rfl | omega) (by first | omega | (simp; done) | (simp; omega)) (by first | omega | (simp; done) | (simp; omega))) ?_)
   rintro _ w45 ⟨Ak42, ck43, rfl, e46, hOk44⟩
   have := Below.fresh e46
   have E47 := below_ext E39 E39.size e46
   have H48 := (e46.blk H40)
   refine ⟨.inr H48, ?_⟩
   refine aw_pure 6 (.agg #[.int .u64 (wv3 ((Q i).x)), .int .u64 (wv2 ((Q i).x)), .int .u64 (wv1 ((Q i).x)), .int .u64 (wv0 ((Q i).x)), .int .u64 (wv3 ((Q i).y)), .int .u64 (wv2 ((Q i).y)), .int .u64 (wv1 ((Q i).y)), .int .u64 (wv0 ((Q i).y)), .int .u64 (wv3 ((Q i).u)), .int .u64 (wv2 ((Q i).u)), .int .u64 (wv1 ((Q i).u)), .int .u64 (wv0 ((Q i).u)), .slice Ak42 ((Q i).es.length) ck43]) rfl (by kernel_rfl) .none H48 (fun _ => dv_build (pv := [(0, .agg #[.int .u64 (wv3 ((Q i).x)), .int .u64 (wv2 ((Q i).x)), .int .u64 (wv1 ((Q i).x)), .int .u64 (wv0 ((Q i).x)), .int .u64 (wv3 ((Q i).y)), .int .u64 (wv2 ((Q i).y)), .int .u64 (wv1 ((Q i).y)), .int .u64 (wv0 ((Q i).y)), .int .u64 (wv3 ((Q i).u)), .int .u64 (wv2 ((Q i).u)), .int .u64 (wv1 ((Q i).u)), .int .u64 (wv0 ((Q i).u))]), (1, .slice Ak42 ((Q i).es.length) ck43)]) (l := [.int .u64 (wv3 ((Q i).x)), .int .u64 (wv2 ((Q i).x)), .int .u64 (wv1 ((Q i).x)), .int .u64 (wv0 ((Q i).x)), .int .u64 (wv3 ((Q i).y)), .int .u64 (wv2 ((Q i).y)), .int .u64 (wv1 ((Q i).y)), .int .u64 (wv0 ((Q i).y)), .int .u64 (wv3 ((Q i).u)), .int .u64 (wv2 ((Q i).u)), .int .u64 (wv1 ((Q i).u)), .int .u64 (wv0 ((Q i).u)), .slice Ak42 ((Q i).es.length) ck43]) zc52 pl52 ⟨rfl, (T rfl rfl), ⟨rfl, (T rfl rfl), trivial⟩⟩ rfl) ?_
   refine aw_one 7 rfl (by kernel_rfl) .none (oe_buildSlice (pv := [(0, .agg #[.int .u64 (wv3 ((Q i).x)), .int .u64 (wv2 ((Q i).x)), .int .u64 (wv1 ((Q i).x)), .int .u64 (wv0 ((Q i).x)), .int .u64 (wv3 ((Q i).y)), .int .u64 (wv2 ((Q i).y)), .int .u64 (wv1 ((Q i).y)), .int .u64 (wv0 ((Q i).y)), .int .u64 (wv3 ((Q i).u)), .int .u64 (wv2 ((Q i).u)), .int .u64 (wv1 ((Q i).u)), .int .u64 (wv0 ((Q i).u)), .slice Ak42 ((Q i).es.length) ck43])]) (init := [.int .u64 0, .int .u64 0, .int .u64 0, .int .u64 0, .int .u64 0, .int .u64 0, .int .u64 0, .int .u64 0, .int .u64 0, .int .u64 0, .int .u64 0, .int .u64 0, .slice none 0 0]) (l := [.int .u64 (wv3 ((Q i).x)), .int .u64 (wv2 ((Q i).x)), .int .u64 (wv1 ((Q i).x)), .int .u64 (wv0 ((Q i).x)), .int .u64 (wv3 ((Q i).y)), .int .u64 (wv2 ((Q i).y)), .int .u64 (wv1 ((Q i).y)), .int .u64 (wv0 ((Q i).y)), .int .u64 (wv3 ((Q i).u)), .int .u64 (wv2 ((Q i).u)), .int .u64 (wv1 ((Q i).u)), .int .u64 (wv0 ((Q i).u)), .slice Ak42 ((Q i).es.length) ck43]) us46 sz52 rfl rfl zc52 (by kernel_rfl) ⟨rfl, (T rfl rfl), trivial⟩ rfl ?_)
   intro b49 w50 n51
   have N52 : w.heap.size ≤ b49 := n51.eq ▸ E47.size
   have : b28 < b49 := n51.eq ▸ lt_of_blk H48
   have := n51.eq; have := n51.size
   have := Below.fresh n51.ext
   have E53 := below_ext E47 E47.size n51.ext
   have H54 := (n51.ext.blk H48)
   refine ⟨.inr H54, ?_⟩
   have h55 := (((((h18.ext n30.ext).st s34 (by omega)).ext d38.ext).ext e46).ext n51.ext)
   have h56 := (hOk44.ext n51.ext)
   refine aw_one 8 rfl (by kernel_rfl) .none (oe_appendN (lo := b1) (hi := w7.heap.size) (l := i) (s := w37.heap.size) (ws := evW (Q i)) (es := (Q i).es) (A' := Ak42) (c' := ck43) (vs := [.int .u64 (wv3 ((Q i).x)), .int .u64 (wv2 ((Q i).x)), .int .u64 (wv1 ((Q i).x)), .int .u64 (wv0 ((Q i).x)), .int .u64 (wv3 ((Q i).y)), .int .u64 (wv2 ((Q i).y)), .int .u64 (wv1 ((Q i).y)), .int .u64 (wv0 ((Q i).y)), .int .u64 (wv3 ((Q i).u)), .int .u64 (wv2 ((Q i).u)), .int .u64 (wv1 ((Q i).u)), .int .u64 (wv0 ((Q i).u)), .slice Ak42 ((Q i).es.length) ck43]) us46 in52 rfl (T rfl rfl) (T rfl rfl) h55 (by decide) n51.blk rfl h56 (by omega) (by omega) (by omega) (fun _ _ => rfl) rfl ?_)
   intro Ad57 c58 w59 hN60 x61
   have E62 := below_mid E53 N5 E53.size x61
   have := x61.size
   have H63 := ((x61.block _ (lt_of_blk H54) (by omega)).trans H54)
   refine ⟨.inr H63, ?_⟩
   refine aw_last 9 (.slice Ad57 (i + 1) c58) rfl (by kernel_rfl) .none (fun _ => dv_assign (T rfl rfl)) ?_
   refine aw_done (by kernel_rfl) ?_
   refine rk_inBlock ?_
   refine rk_reg ?_
   refine lw_v (.int .i64 (((i : Int)) + 1)) (dv_add (a := (i : Int)) (b := 1) (z := ((i : Int)) + 1) (T rfl f16) C (wr_i64 (by omega) (by omega))) ?_
   refine lw_v (.int .i64 (((i : Int)) + 1)) (dv_move (T rfl rfl)) ?_
   refine lw_nil ?_
   exact ih9 (l - ((i + 1))) _ _ (by rw [hd19]; omega) ⟨(i + 1), (updA S i (Ak42, ck43)), Ad57, c58, rfl, f12, rfl, f14, f15, (vi (by omega)), E62, hN60, (by omega)⟩
 · refine rk_cf (T rfl (congrArg Value.bool (decide_eq_false hb24))) ?_
   refine rk_exit rfl ?_
   refine rk_seq ?_
   refine rk_reg ?_
   refine lw_v (.slice A2 i c2) (dv_move (T rfl f13)) ?_
   refine lw_v (.slice A2 i c2) (dv_assign (T rfl rfl)) ?_
   refine lw_nil ?_
   refine rk_ret Try.func59 (v := .slice A2 i c2) (res1 Try.results59 (rv_tmp rfl rfl)) ⟨_, rfl, ?_⟩
   obtain rfl : i = l := by omega
   have hsl_ := h18.sl
   exact ⟨_, _, _, rfl, E17, hsl_, h18.no.lo_le N5⟩
set_option maxHeartbeats 1000000 in
theorem l7Copy_ok {w : World} {A : Option Addr} {l c : Nat} {Q : Nat → Ev} {SL : SlF} {lo hi : Nat} (hx : NR w lo hi A l (fun i_ => evW (Q i_)) (fun i_ => (Q i_).es) SL) (hxb : l ≤ 1048576) (hxf : evF l Q) (hne : ∀ i, i < l → 0 < (Q i).es.length) (hl2 : l ≤ 200) : Ct Try.prog 58 [.slice A l c] w fun v w1 => ∃ A2 c2 S2, v = .slice A2 l c2 ∧ Ext w w1 ∧ l ≤ c2 ∧ NO w1 w.heap.size w1.heap.size (-1) 52 2 A2 l l (fun i_ => evW (Q i_)) (fun i_ => (Q i_).es) S2 := by
 refine ct_run (n := 29) Try.func58 rfl Try.ntmps58 rfl ?_
 have E0 : Below w.heap.size w w := Below.refl _ _
 have hhi := hx.lh
 refine rk_seq ?_
 refine rk_reg ?_
 refine lw_v (.slice none 0 0) (dv_assign C) ?_
 refine lw_nil ?_
 refine rk_seq ?_
 refine rk_reg ?_
 refine lw_e (oe_buildSlice0 us46 sz52 ?_)
 intro b1 w2 n3
 have N5 : w.heap.size ≤ b1 := n3.eq ▸ E0.size
 have := Below.fresh n3.ext
 have E6 := below_ext E0 E0.size n3.ext
 have hN4 := NG.made (T' := 2) (W := fun i_ => evW (Q i_)) (E := fun i_ => (Q i_).es) (SL := fun _ => (none, 0)) n3
 refine lw_v (.slice (some ⟨b1, 0, none⟩) 0 0) (dv_assign (T rfl rfl)) ?_
 refine lw_nil ?_
 refine rk_seq ?_
 refine rk_seq ?_
 refine rk_reg ?_
 refine lw_v (.int .i64 0) (dv_assign C) ?_
 refine lw_nil ?_
 refine rk_block ?_
 refine rk_loop (fun dm_ fr wl => ∃ (i : Nat) (S : SlF) (A2 : Option Addr) (c2 : Nat), dm_ = l - i ∧ fr 0 = .slice A l c ∧ fr 2 = .slice none 0 0 ∧ fr 3 = .slice A2 i c2 ∧ fr 4 = .int .i64 ((i : Int)) ∧ Below w.heap.size w wl ∧ NG wl b1 wl.heap.size 52 2 A2 i c2 (fun i_ => evW (Q i_)) (fun i_ => (Q i_).es) S ∧ (i ≤ l)) (l - 0) ⟨0, (fun _ => (none, 0)), (some ⟨b1, 0, none⟩), 0, rfl, rfl, rfl, rfl, (vi (by omega)), E6, hN4, (Nat.zero_le _)⟩ ?_
 intro d11 fr10 w7 hI8 ih9
 obtain ⟨i, S, A2, c2, hd18, f12, f13, f14, f15, E16, h17, hi_⟩ := hI8
 obtain ⟨As19, hAs21⟩ : ∃ q_ : Option Addr, q_ = (SL i).1 := ⟨_, rfl⟩
 obtain ⟨cs20, hcs22⟩ : ∃ q_ : Nat, q_ = (SL i).2 := ⟨_, rfl⟩
 have hen : i < l → (Q i).es.length ≤ 1048576 ∧ 0 < (Q i).es.length := fun h_ => ⟨evF.n hxf h_, hne i h_⟩
 refine rk_seq ?_
 refine rk_seq ?_
 refine rk_reg ?_
 refine lw_v (.int .i64 ((i : Int))) (dv_move (T rfl f15)) ?_
 refine lw_v (.slice A l c) (dv_move (T rfl f12)) ?_
 refine lw_v (.int .i64 ((l : Int))) (dv_len (ad := A) (l := l) (c := c) us46 (T rfl rfl)) ?_
 refine lw_v (.bool (decide (((i : Int)) < ((l : Int))))) (dv_lss (a := (i : Int)) (b := (l : Int)) (T rfl rfl) (T rfl rfl)) ?_
 refine lw_nil ?_
 by_cases hb23 : ((i : Int)) < ((l : Int))
 · refine rk_ct (T rfl (congrArg Value.bool (decide_eq_true hb23))) ?_
   refine rk_skip ?_
   refine rk_seq ?_
   refine rk_block ?_
   refine rk_any (fun w => NR w lo hi A l (fun i_ => evW (Q i_)) (fun i_ => (Q i_).es) SL) [16] mo ?_
   intro w24 d25
   have := Below.fresh d25.ext
   have E26 := below_ext E16 E16.size d25.ext
   have h27 := ((hx.ext E16).ext d25.ext)
   refine aw_pure 0 (.slice A2 i c2) rfl (by kernel_rfl) .none h27 (fun _ => dv_move (T rfl f14)) ?_
   refine aw_pure 1 (.slice A l c) rfl (by kernel_rfl) .none h27 (fun _ => dv_move (T rfl f12)) ?_
   refine aw_pure 2 (.int .i64 ((i : Int))) rfl (by kernel_rfl) .none h27 (fun _ => dv_move (T rfl f15)) ?_
   obtain ⟨g28, o29, rfl⟩ := NR.at h27 (by first | omega | (simp; done) | (simp; omega))
   refine aw_pure 3 (.pointer (some ⟨g28, o29 + i * 13, none⟩)) rfl (by kernel_rfl) .none h27 (fun _ => dv_indexM (g := g28) (o := o29) (l := l) (c := c) (i := i) (j := (i : Int)) (m := 13) us46 sz52 (T rfl rfl) (T rfl rfl) (by omega) (by first | omega | (simp; done) | (simp; omega))) ?_
   refine aw_pure 4 (.pointer (some ⟨g28, o29 + (i * 13), none⟩)) rfl (by kernel_rfl) .none h27 (fun _ => dv_fieldW (g := g28) (o := o29) (i := i * 13) fo52_0 (T rfl rfl)) ?_
   refine aw_load 5 (.agg #[.int .u64 (wv3 ((Q i).x)), .int .u64 (wv2 ((Q i).x)), .int .u64 (wv1 ((Q i).x)), .int .u64 (wv0 ((Q i).x)), .int .u64 (wv3 ((Q i).y)), .int .u64 (wv2 ((Q i).y)), .int .u64 (wv1 ((Q i).y)), .int .u64 (wv0 ((Q i).y)), .int .u64 (wv3 ((Q i).u)), .int .u64 (wv2 ((Q i).u)), .int .u64 (wv1 ((Q i).u)), .int .u64 (wv0 ((Q i).u))]) rfl (by kernel_rfl) .none h27 (fun _ s => dv_loadsR (l := [.int .u64 (wv3 ((Q i).x)), .int .u64 (wv2 ((Q i).x)), .int .u64 (wv1 ((Q i).x)), .int .u64 (wv0 ((Q i).x)), .int .u64 (wv3 ((Q i).y)), .int .u64 (wv2 ((Q i).y)), .int .u64 (wv1 ((Q i).y)), .int .u64 (wv0 ((Q i).y)), .int .u64 (wv3 ((Q i).u)), .int .u64 (wv2 ((Q i).u)), .int .u64 (wv1 ((Q i).u)), .int .u64 (wv0 ((Q i).u))]) agt40 sz40 (T rfl rfl) rfl (NR.pt (i := i) s (by first | omega | (simp; done) | (simp; omega)))) ?_
   refine aw_pure 7 (.slice (some ⟨g28, o29, none⟩) l c) rfl (by kernel_rfl) .none h27 (fun _ => dv_move (T rfl f12)) ?_
   refine aw_pure 8 (.int .i64 ((i : Int))) rfl (by kernel_rfl) .none h27 (fun _ => dv_move (T rfl f15)) ?_
   refine aw_pure 9 (.pointer (some ⟨g28, o29 + i * 13, none⟩)) rfl (by kernel_rfl) .none h27 (fun _ => dv_indexM (g := g28) (o := o29) (l := l) (c := c) (i := i) (j := (i : Int)) (m := 13) us46 sz52 (T rfl rfl) (T rfl rfl) (by omega) (by first | omega | (simp; done) | (simp; omega))) ?_
   refine aw_pure 10 (.pointer (some ⟨g28, o29 + (i * 13 + 12), none⟩)) rfl (by kernel_rfl) .none h27 (fun _ => dv_fieldW (g := g28) (o := o29) (i := i * 13) fo52_1 (T rfl rfl)) ?_
   refine aw_load 11 (.slice As19 ((Q i).es.length) cs20) rfl (by kernel_rfl) .none h27 (fun _ s => dv_load agt50 (T rfl rfl) (NR.slA (i := i) s (by first | omega | (simp; done) | (simp; omega)) hAs21 hcs22)) ?_
   refine aw_one 6 rfl (by kernel_rfl) .none (oe_buildSlice0 us50 sz2 ?_)
   intro b30 w31 n32
   have N33 : w.heap.size ≤ b30 := n32.eq ▸ E26.size
   have := n32.eq; have := n32.size
   have := Below.fresh n32.ext
   have E34 := below_ext E26 E26.size n32.ext
   have hO35 := Ow.made (T := 2) (k := .i64) (z := .int .i64 0) (c := 0) n32 (by decide)
   have h36 := (h27.ext n32.ext)
   refine ⟨.inr h36, ?_⟩
   obtain ⟨g37, o38, rfl⟩ := RdI.at (NR.rdA (i := i) h36 (by first | omega | (simp; done) | (simp; omega)) hAs21) (by first | omega | (simp; done) | (simp; omega))
   refine aw_one 12 rfl (by kernel_rfl) .none (oe_appendR (base := b30) (L := ([] : List Int)) (M := (Q i).es) (m := (Q i).es.length) us50 in2 (T rfl rfl) (T rfl rfl) hO35 (NR.rdA (i := i) h36 (by first | omega | (simp; done) | (simp; omega)) hAs21) rfl (by first | omega | (simp; done) | (simp; omega)) (by first | omega | (simp; done) | (simp; omega)) ?_)
   intro Ad39 c40 w41 hO42 x43 bt44
   have E45 := below_bl E34 N33 x43
   have h46 := (h36.bl x43 (by omega))
   refine ⟨.inr h46, ?_⟩
   refine aw_pure 13 (.agg #[.int .u64 (wv3 ((Q i).x)), .int .u64 (wv2 ((Q i).x)), .int .u64 (wv1 ((Q i).x)), .int .u64 (wv0 ((Q i).x)), .int .u64 (wv3 ((Q i).y)), .int .u64 (wv2 ((Q i).y)), .int .u64 (wv1 ((Q i).y)), .int .u64 (wv0 ((Q i).y)), .int .u64 (wv3 ((Q i).u)), .int .u64 (wv2 ((Q i).u)), .int .u64 (wv1 ((Q i).u)), .int .u64 (wv0 ((Q i).u)), .slice Ad39 ((([] : List Int) ++ (Q i).es).length) c40]) rfl (by kernel_rfl) .none h46 (fun _ => dv_build (pv := [(0, .agg #[.int .u64 (wv3 ((Q i).x)), .int .u64 (wv2 ((Q i).x)), .int .u64 (wv1 ((Q i).x)), .int .u64 (wv0 ((Q i).x)), .int .u64 (wv3 ((Q i).y)), .int .u64 (wv2 ((Q i).y)), .int .u64 (wv1 ((Q i).y)), .int .u64 (wv0 ((Q i).y)), .int .u64 (wv3 ((Q i).u)), .int .u64 (wv2 ((Q i).u)), .int .u64 (wv1 ((Q i).u)), .int .u64 (wv0 ((Q i).u))]), (1, .slice Ad39 ((([] : List Int) ++ (Q i).es).length) c40)]) (l := [.int .u64 (wv3 ((Q i).x)), .int .u64 (wv2 ((Q i).x)), .int .u64 (wv1 ((Q i).x)), .int .u64 (wv0 ((Q i).x)), .int .u64 (wv3 ((Q i).y)), .int .u64 (wv2 ((Q i).y)), .int .u64 (wv1 ((Q i).y)), .int .u64 (wv0 ((Q i).y)), .int .u64 (wv3 ((Q i).u)), .int .u64 (wv2 ((Q i).u)), .int .u64 (wv1 ((Q i).u)), .int .u64 (wv0 ((Q i).u)), .slice Ad39 ((([] : List Int) ++ (Q i).es).length) c40]) zc52 pl52 ⟨rfl, (T rfl rfl), ⟨rfl, (T rfl rfl), trivial⟩⟩ rfl) ?_
   refine aw_one 14 rfl (by kernel_rfl) .none (oe_buildSlice (pv := [(0, .agg #[.int .u64 (wv3 ((Q i).x)), .int .u64 (wv2 ((Q i).x)), .int .u64 (wv1 ((Q i).x)), .int .u64 (wv0 ((Q i).x)), .int .u64 (wv3 ((Q i).y)), .int .u64 (wv2 ((Q i).y)), .int .u64 (wv1 ((Q i).y)), .int .u64 (wv0 ((Q i).y)), .int .u64 (wv3 ((Q i).u)), .int .u64 (wv2 ((Q i).u)), .int .u64 (wv1 ((Q i).u)), .int .u64 (wv0 ((Q i).u)), .slice Ad39 ((([] : List Int) ++ (Q i).es).length) c40])]) (init := [.int .u64 0, .int .u64 0, .int .u64 0, .int .u64 0, .int .u64 0, .int .u64 0, .int .u64 0, .int .u64 0, .int .u64 0, .int .u64 0, .int .u64 0, .int .u64 0, .slice none 0 0]) (l := [.int .u64 (wv3 ((Q i).x)), .int .u64 (wv2 ((Q i).x)), .int .u64 (wv1 ((Q i).x)), .int .u64 (wv0 ((Q i).x)), .int .u64 (wv3 ((Q i).y)), .int .u64 (wv2 ((Q i).y)), .int .u64 (wv1 ((Q i).y)), .int .u64 (wv0 ((Q i).y)), .int .u64 (wv3 ((Q i).u)), .int .u64 (wv2 ((Q i).u)), .int .u64 (wv1 ((Q i).u)), .int .u64 (wv0 ((Q i).u)), .slice Ad39 ((([] : List Int) ++ (Q i).es).length) c40]) us46 sz52 rfl rfl zc52 (by kernel_rfl) ⟨rfl, (T rfl rfl), trivial⟩ rfl ?_)
   intro b47 w48 n49
   have N50 : w.heap.size ≤ b47 := n49.eq ▸ E45.size
   have := n49.eq; have := n49.size
   have := Below.fresh n49.ext
   have E51 := below_ext E45 E45.size n49.ext
   have h52 := (h46.ext n49.ext)
   refine ⟨.inr h52, ?_⟩
   have h53 := ((((h17.ext d25.ext).ext n32.ext).bl x43 (by omega)).ext n49.ext)
   have h54 := (hO42.ext n49.ext)
   refine aw_one 15 rfl (by kernel_rfl) .none (oe_appendN (lo := b1) (hi := w7.heap.size) (l := i) (s := b30) (ws := evW (Q i)) (es := (([] : List Int) ++ (Q i).es)) (A' := Ad39) (c' := c40) (vs := [.int .u64 (wv3 ((Q i).x)), .int .u64 (wv2 ((Q i).x)), .int .u64 (wv1 ((Q i).x)), .int .u64 (wv0 ((Q i).x)), .int .u64 (wv3 ((Q i).y)), .int .u64 (wv2 ((Q i).y)), .int .u64 (wv1 ((Q i).y)), .int .u64 (wv0 ((Q i).y)), .int .u64 (wv3 ((Q i).u)), .int .u64 (wv2 ((Q i).u)), .int .u64 (wv1 ((Q i).u)), .int .u64 (wv0 ((Q i).u)), .slice Ad39 ((([] : List Int) ++ (Q i).es).length) c40]) us46 in52 rfl (T rfl rfl) (T rfl rfl) h53 (by decide) n49.blk rfl h54 (by omega) (by omega) (by omega) (fun _ _ => rfl) rfl ?_)
   intro Ad55 c56 w57 hN58 x59
   have E60 := below_mid E51 N5 E51.size x59
   have := x59.size
   have h61 := (h52.mid x59 (by omega))
   refine ⟨.inr h61, ?_⟩
   refine aw_last 16 (.slice Ad55 (i + 1) c56) rfl (by kernel_rfl) .none (fun _ => dv_assign (T rfl rfl)) ?_
   refine aw_done (by kernel_rfl) ?_
   refine rk_inBlock ?_
   refine rk_reg ?_
   refine lw_v (.int .i64 ((i : Int))) (dv_move (T rfl f15)) ?_
   refine lw_v (.int .i64 (((i : Int)) + 1)) (dv_add (a := (i : Int)) (b := 1) (z := ((i : Int)) + 1) (T rfl rfl) C (wr_i64 (by omega) (by omega))) ?_
   refine lw_v (.int .i64 (((i : Int)) + 1)) (dv_assign (T rfl rfl)) ?_
   refine lw_nil ?_
   exact ih9 (l - ((i + 1))) _ _ (by rw [hd18]; omega) ⟨(i + 1), (updA S i (Ad39, c40)), Ad55, c56, rfl, f12, f13, rfl, (vi (by omega)), E60, hN58, (by omega)⟩
 · refine rk_cf (T rfl (congrArg Value.bool (decide_eq_false hb23))) ?_
   refine rk_exit rfl ?_
   refine rk_seq ?_
   refine rk_reg ?_
   refine lw_v (.slice A2 i c2) (dv_move (T rfl f14)) ?_
   refine lw_v (.slice A2 i c2) (dv_assign (T rfl rfl)) ?_
   refine lw_nil ?_
   refine rk_ret Try.func58 (v := .slice A2 i c2) (res1 Try.results58 (rv_tmp rfl rfl)) ⟨_, rfl, ?_⟩
   obtain rfl : i = l := by omega
   have hsl_ := h17.sl
   exact ⟨_, _, _, rfl, E16, hsl_, h17.no.lo_le N5⟩
end Go.Proofs.Ytmbpomcbdopgnaa.W
set_option linter.unusedVariables false
set_option linter.unusedSimpArgs false
namespace Go.Proofs.Ytmbpomcbdopgnaa.W
open Go Go.RowKit Go.Proofs.Ytmbpomcbdopgnaa.Fw
attribute [local irreducible] RunK LW AW DV OE Ct
theorem co58 : callOk Try.prog 58 = true := by kernel_rfl
theorem co59 : callOk Try.prog 59 = true := by kernel_rfl
set_option maxHeartbeats 1000000 in
theorem markEvent_ok {w : World} {a0 a1 a2 a3 a4 a5 a6 a7 a8 a9 a10 a11 : Int} {A : Option Addr} {n c base X : Nat} {L : List Int} {k : Int} (hO : Ow w base 2 .i64 A c L) (hl : L.length = n) (hX : ∀ b o, A = some ⟨b, o, none⟩ → b = X) (hXs : X ≤ w.heap.size) (hn : n ≤ 1048576) (hk : 0 ≤ k ∧ k ≤ 1073741824) : Ct Try.prog 24 [.agg #[.int .u64 a0, .int .u64 a1, .int .u64 a2, .int .u64 a3, .int .u64 a4, .int .u64 a5, .int .u64 a6, .int .u64 a7, .int .u64 a8, .int .u64 a9, .int .u64 a10, .int .u64 a11, .slice A n c], .int .i64 k] w fun v w1 => v = .int .i64 (k + (n : Int)) ∧ Mid X (X + 1) (-1) w w1 ∧ Ow w1 base 2 .i64 A c (mkL k n) := by
 refine ct_run (n := 10) Try.func24 rfl Try.ntmps24 rfl ?_
 have E0 : Below X w w := Below.refl _ _
 have hb0 := hXs
 refine rk_seq ?_
 refine rk_reg ?_
 refine lw_e (oe_box (v := .agg #[.int .u64 a0, .int .u64 a1, .int .u64 a2, .int .u64 a3, .int .u64 a4, .int .u64 a5, .int .u64 a6, .int .u64 a7, .int .u64 a8, .int .u64 a9, .int .u64 a10, .int .u64 a11, .slice A n c]) (cs := #[.int .u64 a0, .int .u64 a1, .int .u64 a2, .int .u64 a3, .int .u64 a4, .int .u64 a5, .int .u64 a6, .int .u64 a7, .int .u64 a8, .int .u64 a9, .int .u64 a10, .int .u64 a11, .slice A n c]) (T rfl rfl) rfl ?_)
 intro b1 w2 n3
 have N4 : w.heap.size ≤ b1 := n3.eq ▸ E0.size
 have E5 := below_ext E0 (Nat.le_trans hb0 E0.size) n3.ext
 refine lw_v (.int .i64 0) (dv_assign C) ?_
 refine lw_nil ?_
 refine rk_seq ?_
 refine rk_reg ?_
 refine lw_v (.pointer (some ⟨b1, 12, none⟩)) (dv_fieldAddr (a := ⟨b1, 0, none⟩) (a' := ⟨b1, 12, none⟩) fo52_1 (T rfl rfl) rfl) ?_
 refine lw_v (.slice A n c) (dv_load1 (b := b1) (o := 12) agt50 (T rfl rfl) n3.blk rfl) ?_
 refine lw_v (.int .i64 k) (dv_move (T rfl rfl)) ?_
 have h7 := (hO.ext n3.ext)
 refine lw_e (oe_callf (vs := [.slice A n c, .int .i64 k]) co35 (ar2 (T rfl rfl) (T rfl rfl)) (markOw_ok h7 (by first | rfl | omega) hX (by first | omega | (simp; done) | (simp; omega)) (by omega)) ?_)
 rintro _ w8 ⟨rfl, e9, hN6⟩
 have E10 := below_mid E5 (by omega) (Nat.le_trans hb0 E5.size) e9
 refine lw_v (.int .i64 (k + (n : Int))) (dv_assign (T rfl rfl)) ?_
 refine lw_nil ?_
 refine rk_seq ?_
 refine rk_reg ?_
 refine lw_v (.int .i64 (k + (n : Int))) (dv_move (T rfl rfl)) ?_
 refine lw_v (.int .i64 (k + (n : Int))) (dv_assign (T rfl rfl)) ?_
 refine lw_nil ?_
 refine rk_ret Try.func24 (v := .int .i64 (k + (n : Int))) (res1 Try.results24 (rv_tmp rfl rfl)) ⟨_, rfl, ?_⟩
 exact ⟨vi (by omega), (((Mid.refl _ _ _ _).trans (Ext.mid n3.ext)).trans e9), hN6⟩
set_option maxHeartbeats 1000000 in
theorem heldEvent_ok {w : World} {a0 a1 a2 a3 a4 a5 a6 a7 a8 a9 a10 a11 : Int} {A : Option Addr} {n c : Nat} {xs : List Int} {k : Int} (hx : RdI w .i64 A xs) (hxl : xs.length = n) (hm : xs = mkL k n) (hn : n ≤ 1048576) (hk : 0 ≤ k ∧ k ≤ 1073741824) : Ct Try.prog 25 [.agg #[.int .u64 a0, .int .u64 a1, .int .u64 a2, .int .u64 a3, .int .u64 a4, .int .u64 a5, .int .u64 a6, .int .u64 a7, .int .u64 a8, .int .u64 a9, .int .u64 a10, .int .u64 a11, .slice A n c], .int .i64 k] w fun v w1 => v = .int .i64 (k + (n : Int)) ∧ Ext w w1 := by
 refine ct_run (n := 12) Try.func25 rfl Try.ntmps25 rfl ?_
 have E0 : Below w.heap.size w w := Below.refl _ _
 refine rk_seq ?_
 refine rk_reg ?_
 refine lw_e (oe_box (v := .agg #[.int .u64 a0, .int .u64 a1, .int .u64 a2, .int .u64 a3, .int .u64 a4, .int .u64 a5, .int .u64 a6, .int .u64 a7, .int .u64 a8, .int .u64 a9, .int .u64 a10, .int .u64 a11, .slice A n c]) (cs := #[.int .u64 a0, .int .u64 a1, .int .u64 a2, .int .u64 a3, .int .u64 a4, .int .u64 a5, .int .u64 a6, .int .u64 a7, .int .u64 a8, .int .u64 a9, .int .u64 a10, .int .u64 a11, .slice A n c]) (T rfl rfl) rfl ?_)
 intro b1 w2 n3
 have N4 : w.heap.size ≤ b1 := n3.eq ▸ E0.size
 have E5 := below_ext E0 E0.size n3.ext
 refine lw_v (.int .i64 0) (dv_assign C) ?_
 refine lw_nil ?_
 refine rk_seq ?_
 refine rk_reg ?_
 refine lw_v (.pointer (some ⟨b1, 12, none⟩)) (dv_fieldAddr (a := ⟨b1, 0, none⟩) (a' := ⟨b1, 12, none⟩) fo52_1 (T rfl rfl) rfl) ?_
 refine lw_v (.slice A n c) (dv_load1 (b := b1) (o := 12) agt50 (T rfl rfl) n3.blk rfl) ?_
 refine lw_v (.int .i64 k) (dv_move (T rfl rfl)) ?_
 have h6 := (hx.ext n3.ext)
 refine lw_e (oe_callf (vs := [.slice A n c, .int .i64 k]) co36 (ar2 (T rfl rfl) (T rfl rfl)) (heldInt64S_ok (n := n) (c := c) (xs := xs) (k := k) h6 (by first | rfl | omega) (by first | omega | (simp; done) | (simp; omega)) hm (by omega)) ?_)
 rintro _ w7 ⟨rfl, e8⟩
 have E9 := below_ext E5 E5.size e8
 refine lw_v (.int .i64 (k + (n : Int))) (dv_assign (T rfl rfl)) ?_
 refine lw_nil ?_
 refine rk_seq ?_
 refine rk_seq ?_
 refine rk_reg ?_
 refine lw_v (.int .i64 (k + (n : Int))) (dv_move (T rfl rfl)) ?_
 refine lw_v (.bool (decide ((k + (n : Int)) < 0))) (dv_lss (a := k + (n : Int)) (b := 0) (T rfl rfl) C) ?_
 refine lw_nil ?_
 by_cases hb10 : (k + (n : Int)) < 0
 · refine rk_ct (T rfl (congrArg Value.bool (decide_eq_true hb10))) ?_
   refine rk_seq ?_
   refine rk_reg ?_
   refine lw_v (.int .i64 (-1)) (dv_assign C) ?_
   refine lw_nil ?_
   refine rk_ret Try.func25 (v := .int .i64 (-1)) (res1 Try.results25 (rv_tmp rfl rfl)) ⟨_, rfl, ?_⟩
   exfalso; omega
 · refine rk_cf (T rfl (congrArg Value.bool (decide_eq_false hb10))) ?_
   refine rk_skip ?_
   refine rk_seq ?_
   refine rk_reg ?_
   refine lw_v (.int .i64 (k + (n : Int))) (dv_move (T rfl rfl)) ?_
   refine lw_v (.int .i64 (k + (n : Int))) (dv_assign (T rfl rfl)) ?_
   refine lw_nil ?_
   refine rk_ret Try.func25 (v := .int .i64 (k + (n : Int))) (res1 Try.results25 (rv_tmp rfl rfl)) ⟨_, rfl, ?_⟩
   exact ⟨vi (by omega), E9⟩
set_option maxHeartbeats 1000000 in
theorem sEventTake_ok {w : World} {A : Option Addr} {l c : Nat} {Q : Nat → Ev} {SL : SlF} {lo hi : Nat} (hx : NR w lo hi A l (fun i_ => evW (Q i_)) (fun i_ => (Q i_).es) SL) (hxb : l ≤ 1048576) (hxf : evF l Q) : Ct Try.prog 20 [.slice A l c] w fun v w1 => ∃ A0 c0 A2 c2 S2 X, v = .tuple #[.agg #[.int .u64 (wv3 ((takE l Q).x)), .int .u64 (wv2 ((takE l Q).x)), .int .u64 (wv1 ((takE l Q).x)), .int .u64 (wv0 ((takE l Q).x)), .int .u64 (wv3 ((takE l Q).y)), .int .u64 (wv2 ((takE l Q).y)), .int .u64 (wv1 ((takE l Q).y)), .int .u64 (wv0 ((takE l Q).y)), .int .u64 (wv3 ((takE l Q).u)), .int .u64 (wv2 ((takE l Q).u)), .int .u64 (wv1 ((takE l Q).u)), .int .u64 (wv0 ((takE l Q).u)), .slice A0 (takE l Q).es.length c0], .slice A2 (takN l Q) c2, .bool (decide (takS l Q))] ∧ Ext w w1 ∧ Ow w1 w.heap.size 2 .i64 A0 c0 (takE l Q).es ∧ (∀ b o, A0 = some ⟨b, o, none⟩ → b = X) ∧ (w.heap.size ≤ X ∧ X < w1.heap.size) ∧ NO w1 w.heap.size w1.heap.size (X : Int) 52 2 A2 (takN l Q) (takN l Q) (fun i_ => evW (shE Q i_)) (fun i_ => (shE Q i_).es) S2 := by
 refine ct_run (n := 22) Try.func20 rfl Try.ntmps20 rfl ?_
 have E0 : Below w.heap.size w w := Below.refl _ _
 have hhi := hx.lh
 refine rk_seq ?_
 refine rk_reg ?_
 refine lw_e (oe_alloc ze52 ?_)
 intro b1 w2 n3
 have N4 : w.heap.size ≤ b1 := n3.eq ▸ E0.size
 have := n3.eq; have := n3.size
 have := Below.fresh n3.ext
 have E5 := below_ext E0 E0.size n3.ext
 refine lw_v (.slice none 0 0) (dv_assign C) ?_
 refine lw_v (.bool false) (dv_assign C) ?_
 refine lw_nil ?_
 refine rk_seq ?_
 refine rk_seq ?_
 refine rk_reg ?_
 refine lw_v (.slice A l c) (dv_move (T rfl rfl)) ?_
 have h6 := (hx.ext n3.ext)
 refine lw_e (oe_callf (vs := [.slice A l c]) co16 (ar1 (T rfl rfl)) (sEventsOk_ok (c := c) h6 (by omega) hxf) ?_)
 rintro _ w7 ⟨rfl, e8⟩
 have := Below.fresh e8
 have E9 := below_ext E5 E5.size e8
 refine lw_v (.bool (decide (¬ (evsOk l Q)))) (dv_notd (p := evsOk l Q) (T rfl rfl)) ?_
 refine lw_v (.bool (decide (¬ (evsOk l Q)))) (dv_move (T rfl rfl)) ?_
 by_cases hb10 : evsOk l Q
 · have hl2_ := evsOk_l hb10
   refine lw_vy (.slice A l c) (d := 9) rfl rfl (congrArg Value.bool (decide_eq_false (not_not_intro hb10))) (dv_move (T rfl rfl)) ?_
   refine lw_vy (.int .i64 ((l : Int))) (d := 9) rfl rfl (congrArg Value.bool (decide_eq_false (not_not_intro hb10))) (dv_len (ad := A) (l := l) (c := c) us46 (T rfl rfl)) ?_
   refine lw_vy (.bool (decide (((l : Int)) = 0))) (d := 9) rfl rfl (congrArg Value.bool (decide_eq_false (not_not_intro hb10))) (dv_eql (a := (l : Int)) (b := 0) (T rfl rfl) C) ?_
   refine lw_v (.bool (decide (((l : Int)) = 0))) (dv_pick_f (T rfl (congrArg Value.bool (decide_eq_false (not_not_intro hb10)))) (T rfl rfl)) ?_
   refine lw_nil ?_
   by_cases hb11 : ((l : Int)) = 0
   · refine rk_ct (T rfl (congrArg Value.bool (decide_eq_true hb11))) ?_
     refine rk_seq ?_
     refine rk_reg ?_
     refine lw_v (.agg #[.int .u64 0, .int .u64 0, .int .u64 0, .int .u64 0, .int .u64 0, .int .u64 0, .int .u64 0, .int .u64 0, .int .u64 0, .int .u64 0, .int .u64 0, .int .u64 0, .slice none 0 0]) (dv_build (pv := []) (l := [.int .u64 0, .int .u64 0, .int .u64 0, .int .u64 0, .int .u64 0, .int .u64 0, .int .u64 0, .int .u64 0, .int .u64 0, .int .u64 0, .int .u64 0, .int .u64 0, .slice none 0 0]) zc52 pl52 trivial rfl) ?_
     have H12 := (e8.blk n3.blk)
     refine lw_e (oe_store (v := .agg #[.int .u64 0, .int .u64 0, .int .u64 0, .int .u64 0, .int .u64 0, .int .u64 0, .int .u64 0, .int .u64 0, .int .u64 0, .int .u64 0, .int .u64 0, .int .u64 0, .slice none 0 0]) (vs := [.int .u64 0, .int .u64 0, .int .u64 0, .int .u64 0, .int .u64 0, .int .u64 0, .int .u64 0, .int .u64 0, .int .u64 0, .int .u64 0, .int .u64 0, .int .u64 0, .slice none 0 0]) (l := [.int .u64 0, .int .u64 0, .int .u64 0, .int .u64 0, .int .u64 0, .int .u64 0, .int .u64 0, .int .u64 0, .int .u64 0, .int .u64 0, .int .u64 0, .int .u64 0, .slice none 0 0]) (T rfl rfl) (T rfl rfl) sz52 rfl rfl rfl H12 rfl ?_)
     intro w13 s14 H15
     have := s14.size
     have E16 := below_st E9 N4 s14
     refine lw_v (.slice none 0 0) (dv_assign C) ?_
     refine lw_v (.bool false) (dv_assign C) ?_
     refine lw_nil ?_
     refine rk_ret Try.func20 (v := .tuple #[.agg #[.int .u64 0, .int .u64 0, .int .u64 0, .int .u64 0, .int .u64 0, .int .u64 0, .int .u64 0, .int .u64 0, .int .u64 0, .int .u64 0, .int .u64 0, .int .u64 0, .slice none 0 0], .slice none 0 0, .bool false]) (res3 Try.results20 (rv_cells (l := [.int .u64 0, .int .u64 0, .int .u64 0, .int .u64 0, .int .u64 0, .int .u64 0, .int .u64 0, .int .u64 0, .int .u64 0, .int .u64 0, .int .u64 0, .int .u64 0, .slice none 0 0]) agt52 sz52 rfl rfl H15 rfl) (rv_tmp rfl rfl) (rv_tmp rfl rfl)) ⟨_, rfl, ?_⟩
     have hS : ¬ takS l Q := fun h_ => by first | exact absurd h_.1 (by assumption) | (have := h_.2; omega)
     refine ⟨none, 0, none, 0, fun _ => (none, 0), w.heap.size, ?_⟩
     rw [takE_f hS, takN_f hS, show decide (takS l Q) = false from decide_eq_false hS]
     exact ⟨rfl, E16, .nil0 E16.size, fun b o h_ => (by cases h_), ⟨Nat.le_refl _, by omega⟩, NO.nil E16.size (Nat.le_refl _)⟩
   · refine rk_cf (T rfl (congrArg Value.bool (decide_eq_false hb11))) ?_
     refine rk_skip ?_
     refine rk_seq ?_
     refine rk_reg ?_
     refine lw_v (.slice A l c) (dv_move (T rfl rfl)) ?_
     have h17 := (h6.ext e8)
     refine lw_e (oe_callf (vs := [.slice A l c]) co58 (ar1 (T rfl rfl)) (l7Copy_ok (c := c) h17 (by omega) hxf (evsOk_ne (by assumption)) (by omega)) ?_)
     rintro _ w23 ⟨At18, ct19, St20, rfl, e24, hct22, hNt21⟩
     have := Below.fresh e24
     have E25 := below_ext E9 E9.size e24
     refine lw_v (.slice At18 l ct19) (dv_assign (T rfl rfl)) ?_
     refine lw_nil ?_
     refine rk_seq ?_
     obtain ⟨As26, hAs28⟩ : ∃ q_ : Option Addr, q_ = (St20 0).1 := ⟨_, rfl⟩
     obtain ⟨cs27, hcs29⟩ : ∃ q_ : Nat, q_ = (St20 0).2 := ⟨_, rfl⟩
     refine rk_any (fun w => NR w w7.heap.size w23.heap.size At18 l (fun i_ => evW (Q i_)) (fun i_ => (Q i_).es) St20) [7] mo ?_
     intro w30 d31
     have := Below.fresh d31.ext
     have E32 := below_ext E25 E25.size d31.ext
     have h33 := (hNt21.ext d31.ext)
     refine aw_pure 0 (.slice At18 l ct19) rfl (by kernel_rfl) .none h33.nr (fun _ => dv_move (T rfl rfl)) ?_
     obtain ⟨g34, o35, rfl⟩ := NO.at h33 (by first | omega | (simp; done) | (simp; omega))
     refine aw_pure 1 (.pointer (some ⟨g34, o35 + 0 * 13, none⟩)) rfl (by kernel_rfl) .none h33.nr (fun _ => dv_indexM (g := g34) (o := o35) (l := l) (c := ct19) (i := 0) (j := 0) (m := 13) us46 sz52 (T rfl rfl) C (by omega) (by first | omega | (simp; done) | (simp; omega))) ?_
     refine aw_load 2 (.agg #[.int .u64 (wv3 ((Q 0).x)), .int .u64 (wv2 ((Q 0).x)), .int .u64 (wv1 ((Q 0).x)), .int .u64 (wv0 ((Q 0).x)), .int .u64 (wv3 ((Q 0).y)), .int .u64 (wv2 ((Q 0).y)), .int .u64 (wv1 ((Q 0).y)), .int .u64 (wv0 ((Q 0).y)), .int .u64 (wv3 ((Q 0).u)), .int .u64 (wv2 ((Q 0).u)), .int .u64 (wv1 ((Q 0).u)), .int .u64 (wv0 ((Q 0).u)), .slice As26 ((Q 0).es.length) cs27]) rfl (by kernel_rfl) .none h33.nr (fun _ s => dv_loadsR (l := [.int .u64 (wv3 ((Q 0).x)), .int .u64 (wv2 ((Q 0).x)), .int .u64 (wv1 ((Q 0).x)), .int .u64 (wv0 ((Q 0).x)), .int .u64 (wv3 ((Q 0).y)), .int .u64 (wv2 ((Q 0).y)), .int .u64 (wv1 ((Q 0).y)), .int .u64 (wv0 ((Q 0).y)), .int .u64 (wv3 ((Q 0).u)), .int .u64 (wv2 ((Q 0).u)), .int .u64 (wv1 ((Q 0).u)), .int .u64 (wv0 ((Q 0).u)), .slice As26 ((Q 0).es.length) cs27]) agt52 sz52 (T rfl rfl) rfl (NR.evA (i := 0) s (by first | omega | (simp; done) | (simp; omega)) hAs28 hcs29)) ?_
     refine aw_pure 3 (.slice (some ⟨g34, o35, none⟩) l ct19) rfl (by kernel_rfl) .none h33.nr (fun _ => dv_move (T rfl rfl)) ?_
     refine aw_pure 4 (.slice (tlA (some ⟨g34, o35, none⟩) ct19) (l - 1) (ct19 - 1)) rfl (by kernel_rfl) .none h33.nr (fun _ => dv_slice1 (A := (some ⟨g34, o35, none⟩)) (l := l) (c := ct19) us46 sz52 (T rfl rfl) C (by first | omega | (simp; done) | (simp; omega))) ?_
     have H36 := (d31.ext.blk (e24.blk (e8.blk n3.blk)))
     refine aw_one 5 rfl (by kernel_rfl) .none (oe_store (v := .agg #[.int .u64 (wv3 ((Q 0).x)), .int .u64 (wv2 ((Q 0).x)), .int .u64 (wv1 ((Q 0).x)), .int .u64 (wv0 ((Q 0).x)), .int .u64 (wv3 ((Q 0).y)), .int .u64 (wv2 ((Q 0).y)), .int .u64 (wv1 ((Q 0).y)), .int .u64 (wv0 ((Q 0).y)), .int .u64 (wv3 ((Q 0).u)), .int .u64 (wv2 ((Q 0).u)), .int .u64 (wv1 ((Q 0).u)), .int .u64 (wv0 ((Q 0).u)), .slice As26 ((Q 0).es.length) cs27]) (vs := [.int .u64 (wv3 ((Q 0).x)), .int .u64 (wv2 ((Q 0).x)), .int .u64 (wv1 ((Q 0).x)), .int .u64 (wv0 ((Q 0).x)), .int .u64 (wv3 ((Q 0).y)), .int .u64 (wv2 ((Q 0).y)), .int .u64 (wv1 ((Q 0).y)), .int .u64 (wv0 ((Q 0).y)), .int .u64 (wv3 ((Q 0).u)), .int .u64 (wv2 ((Q 0).u)), .int .u64 (wv1 ((Q 0).u)), .int .u64 (wv0 ((Q 0).u)), .slice As26 ((Q 0).es.length) cs27]) (l := [.int .u64 (wv3 ((Q 0).x)), .int .u64 (wv2 ((Q 0).x)), .int .u64 (wv1 ((Q 0).x)), .int .u64 (wv0 ((Q 0).x)), .int .u64 (wv3 ((Q 0).y)), .int .u64 (wv2 ((Q 0).y)), .int .u64 (wv1 ((Q 0).y)), .int .u64 (wv0 ((Q 0).y)), .int .u64 (wv3 ((Q 0).u)), .int .u64 (wv2 ((Q 0).u)), .int .u64 (wv1 ((Q 0).u)), .int .u64 (wv0 ((Q 0).u)), .slice As26 ((Q 0).es.length) cs27]) (T rfl rfl) (T rfl rfl) sz52 rfl rfl rfl H36 rfl ?_)
     intro w37 s38 H39
     have := s38.size
     have E40 := below_st E32 N4 s38
     have h41 := (h33.st s38 (by omega))
     refine ⟨.inr h41.nr, ?_⟩
     refine aw_pure 6 (.slice (tlA (some ⟨g34, o35, none⟩) ct19) (l - 1) (ct19 - 1)) rfl (by kernel_rfl) .none h41.nr (fun _ => dv_assign (T rfl rfl)) ?_
     refine aw_last 7 (.bool true) rfl (by kernel_rfl) .none (fun _ => dv_assign C) ?_
     refine aw_done (by kernel_rfl) ?_
     refine rk_ret Try.func20 (v := .tuple #[.agg #[.int .u64 (wv3 ((Q 0).x)), .int .u64 (wv2 ((Q 0).x)), .int .u64 (wv1 ((Q 0).x)), .int .u64 (wv0 ((Q 0).x)), .int .u64 (wv3 ((Q 0).y)), .int .u64 (wv2 ((Q 0).y)), .int .u64 (wv1 ((Q 0).y)), .int .u64 (wv0 ((Q 0).y)), .int .u64 (wv3 ((Q 0).u)), .int .u64 (wv2 ((Q 0).u)), .int .u64 (wv1 ((Q 0).u)), .int .u64 (wv0 ((Q 0).u)), .slice As26 ((Q 0).es.length) cs27], .slice (tlA (some ⟨g34, o35, none⟩) ct19) (l - 1) (ct19 - 1), .bool true]) (res3 Try.results20 (rv_cells (l := [.int .u64 (wv3 ((Q 0).x)), .int .u64 (wv2 ((Q 0).x)), .int .u64 (wv1 ((Q 0).x)), .int .u64 (wv0 ((Q 0).x)), .int .u64 (wv3 ((Q 0).y)), .int .u64 (wv2 ((Q 0).y)), .int .u64 (wv1 ((Q 0).y)), .int .u64 (wv0 ((Q 0).y)), .int .u64 (wv3 ((Q 0).u)), .int .u64 (wv2 ((Q 0).u)), .int .u64 (wv1 ((Q 0).u)), .int .u64 (wv0 ((Q 0).u)), .slice As26 ((Q 0).es.length) cs27]) agt52 sz52 rfl rfl H39 rfl) (rv_tmp rfl rfl) (rv_tmp rfl rfl)) ⟨_, rfl, ?_⟩
     have hS : takS l Q := ⟨by assumption, by omega⟩
     have hne_ := evsOk_ne hS.1 0 hS.2
     obtain ⟨X_, hX1, hX2, hX3⟩ := (h41.ow (i := 0) (by omega)).some_of hne_
     refine ⟨As26, cs27, tlA (some ⟨g34, o35, none⟩) ct19, ct19 - 1, fun i_ => St20 (i_ + 1), X_, ?_⟩
     rw [takE_t hS, takN_t hS, show decide (takS l Q) = true from decide_eq_true hS]
     refine ⟨rfl, E40, ?_, ?_, ⟨by omega, by omega⟩, ((h41.lo_le (by omega)).hi_mono (by omega) (Nat.le_refl _)).tl (by decide) (by omega) hX1 (by omega)⟩
     · rw [hAs28, hcs29]; exact (h41.ow (i := 0) (by omega)).mono (by omega)
     · intro b o h_; rw [hAs28, hX1] at h_; injection h_ with h_; injection h_ with h_ _ _; exact h_.symm
 · refine lw_no (d := 9) rfl rfl (congrArg Value.bool (decide_eq_true hb10)) ?_
   refine lw_no (d := 9) rfl rfl (congrArg Value.bool (decide_eq_true hb10)) ?_
   refine lw_no (d := 9) rfl rfl (congrArg Value.bool (decide_eq_true hb10)) ?_
   refine lw_v (.bool true) (dv_pick_t (T rfl (congrArg Value.bool (decide_eq_true hb10))) C) ?_
   refine lw_nil ?_
   refine rk_ct (T rfl rfl) ?_
   refine rk_seq ?_
   refine rk_reg ?_
   refine lw_v (.agg #[.int .u64 0, .int .u64 0, .int .u64 0, .int .u64 0, .int .u64 0, .int .u64 0, .int .u64 0, .int .u64 0, .int .u64 0, .int .u64 0, .int .u64 0, .int .u64 0, .slice none 0 0]) (dv_build (pv := []) (l := [.int .u64 0, .int .u64 0, .int .u64 0, .int .u64 0, .int .u64 0, .int .u64 0, .int .u64 0, .int .u64 0, .int .u64 0, .int .u64 0, .int .u64 0, .int .u64 0, .slice none 0 0]) zc52 pl52 trivial rfl) ?_
   have H42 := (e8.blk n3.blk)
   refine lw_e (oe_store (v := .agg #[.int .u64 0, .int .u64 0, .int .u64 0, .int .u64 0, .int .u64 0, .int .u64 0, .int .u64 0, .int .u64 0, .int .u64 0, .int .u64 0, .int .u64 0, .int .u64 0, .slice none 0 0]) (vs := [.int .u64 0, .int .u64 0, .int .u64 0, .int .u64 0, .int .u64 0, .int .u64 0, .int .u64 0, .int .u64 0, .int .u64 0, .int .u64 0, .int .u64 0, .int .u64 0, .slice none 0 0]) (l := [.int .u64 0, .int .u64 0, .int .u64 0, .int .u64 0, .int .u64 0, .int .u64 0, .int .u64 0, .int .u64 0, .int .u64 0, .int .u64 0, .int .u64 0, .int .u64 0, .slice none 0 0]) (T rfl rfl) (T rfl rfl) sz52 rfl rfl rfl H42 rfl ?_)
   intro w43 s44 H45
   have := s44.size
   have E46 := below_st E9 N4 s44
   refine lw_v (.slice none 0 0) (dv_assign C) ?_
   refine lw_v (.bool false) (dv_assign C) ?_
   refine lw_nil ?_
   refine rk_ret Try.func20 (v := .tuple #[.agg #[.int .u64 0, .int .u64 0, .int .u64 0, .int .u64 0, .int .u64 0, .int .u64 0, .int .u64 0, .int .u64 0, .int .u64 0, .int .u64 0, .int .u64 0, .int .u64 0, .slice none 0 0], .slice none 0 0, .bool false]) (res3 Try.results20 (rv_cells (l := [.int .u64 0, .int .u64 0, .int .u64 0, .int .u64 0, .int .u64 0, .int .u64 0, .int .u64 0, .int .u64 0, .int .u64 0, .int .u64 0, .int .u64 0, .int .u64 0, .slice none 0 0]) agt52 sz52 rfl rfl H45 rfl) (rv_tmp rfl rfl) (rv_tmp rfl rfl)) ⟨_, rfl, ?_⟩
   have hS : ¬ takS l Q := fun h_ => by first | exact absurd h_.1 (by assumption) | (have := h_.2; omega)
   refine ⟨none, 0, none, 0, fun _ => (none, 0), w.heap.size, ?_⟩
   rw [takE_f hS, takN_f hS, show decide (takS l Q) = false from decide_eq_false hS]
   exact ⟨rfl, E46, .nil0 E46.size, fun b o h_ => (by cases h_), ⟨Nat.le_refl _, by omega⟩, NO.nil E46.size (Nat.le_refl _)⟩
set_option maxHeartbeats 1000000 in
theorem iEventTake_ok {w : World} {A : Option Addr} {l c : Nat} {Q : Nat → Ev} {SL : SlF} {lo hi : Nat} (hx : NR w lo hi A l (fun i_ => evW (Q i_)) (fun i_ => (Q i_).es) SL) (hxb : l ≤ 1048576) (hxf : evF l Q) : Ct Try.prog 21 [.slice A l c] w fun v w1 => ∃ A0 c0 A2 c2 S2 X, v = .tuple #[.agg #[.int .u64 (wv3 ((takE l Q).x)), .int .u64 (wv2 ((takE l Q).x)), .int .u64 (wv1 ((takE l Q).x)), .int .u64 (wv0 ((takE l Q).x)), .int .u64 (wv3 ((takE l Q).y)), .int .u64 (wv2 ((takE l Q).y)), .int .u64 (wv1 ((takE l Q).y)), .int .u64 (wv0 ((takE l Q).y)), .int .u64 (wv3 ((takE l Q).u)), .int .u64 (wv2 ((takE l Q).u)), .int .u64 (wv1 ((takE l Q).u)), .int .u64 (wv0 ((takE l Q).u)), .slice A0 (takE l Q).es.length c0], .slice A2 (takN l Q) c2, .bool (decide (takS l Q))] ∧ Ext w w1 ∧ Ow w1 w.heap.size 2 .i64 A0 c0 (takE l Q).es ∧ (∀ b o, A0 = some ⟨b, o, none⟩ → b = X) ∧ (w.heap.size ≤ X ∧ X < w1.heap.size) ∧ NO w1 w.heap.size w1.heap.size (X : Int) 52 2 A2 (takN l Q) (takN l Q) (fun i_ => evW (shE Q i_)) (fun i_ => (shE Q i_).es) S2 := by
 refine ct_run (n := 26) Try.func21 rfl Try.ntmps21 rfl ?_
 have E0 : Below w.heap.size w w := Below.refl _ _
 have hhi := hx.lh
 refine rk_seq ?_
 refine rk_reg ?_
 refine lw_e (oe_alloc ze52 ?_)
 intro b1 w2 n3
 have N4 : w.heap.size ≤ b1 := n3.eq ▸ E0.size
 have := n3.eq; have := n3.size
 have := Below.fresh n3.ext
 have E5 := below_ext E0 E0.size n3.ext
 refine lw_v (.slice none 0 0) (dv_assign C) ?_
 refine lw_v (.bool false) (dv_assign C) ?_
 refine lw_nil ?_
 refine rk_seq ?_
 refine rk_seq ?_
 refine rk_reg ?_
 refine lw_v (.slice A l c) (dv_move (T rfl rfl)) ?_
 have h6 := (hx.ext n3.ext)
 refine lw_e (oe_callf (vs := [.slice A l c]) co18 (ar1 (T rfl rfl)) (iEventsOk_ok (c := c) h6 (by omega) hxf) ?_)
 rintro _ w7 ⟨rfl, e8⟩
 have := Below.fresh e8
 have E9 := below_ext E5 E5.size e8
 refine lw_v (.bool (decide (¬ (evsOk l Q)))) (dv_notd (p := evsOk l Q) (T rfl rfl)) ?_
 refine lw_v (.bool (decide (¬ (evsOk l Q)))) (dv_move (T rfl rfl)) ?_
 by_cases hb10 : evsOk l Q
 · have hl2_ := evsOk_l hb10
   refine lw_vy (.slice A l c) (d := 9) rfl rfl (congrArg Value.bool (decide_eq_false (not_not_intro hb10))) (dv_move (T rfl rfl)) ?_
   refine lw_vy (.int .i64 ((l : Int))) (d := 9) rfl rfl (congrArg Value.bool (decide_eq_false (not_not_intro hb10))) (dv_len (ad := A) (l := l) (c := c) us46 (T rfl rfl)) ?_
   refine lw_vy (.bool (decide (((l : Int)) = 0))) (d := 9) rfl rfl (congrArg Value.bool (decide_eq_false (not_not_intro hb10))) (dv_eql (a := (l : Int)) (b := 0) (T rfl rfl) C) ?_
   refine lw_v (.bool (decide (((l : Int)) = 0))) (dv_pick_f (T rfl (congrArg Value.bool (decide_eq_false (not_not_intro hb10)))) (T rfl rfl)) ?_
   refine lw_nil ?_
   by_cases hb11 : ((l : Int)) = 0
   · refine rk_ct (T rfl (congrArg Value.bool (decide_eq_true hb11))) ?_
     refine rk_seq ?_
     refine rk_reg ?_
     refine lw_v (.agg #[.int .u64 0, .int .u64 0, .int .u64 0, .int .u64 0, .int .u64 0, .int .u64 0, .int .u64 0, .int .u64 0, .int .u64 0, .int .u64 0, .int .u64 0, .int .u64 0, .slice none 0 0]) (dv_build (pv := []) (l := [.int .u64 0, .int .u64 0, .int .u64 0, .int .u64 0, .int .u64 0, .int .u64 0, .int .u64 0, .int .u64 0, .int .u64 0, .int .u64 0, .int .u64 0, .int .u64 0, .slice none 0 0]) zc52 pl52 trivial rfl) ?_
     have H12 := (e8.blk n3.blk)
     refine lw_e (oe_store (v := .agg #[.int .u64 0, .int .u64 0, .int .u64 0, .int .u64 0, .int .u64 0, .int .u64 0, .int .u64 0, .int .u64 0, .int .u64 0, .int .u64 0, .int .u64 0, .int .u64 0, .slice none 0 0]) (vs := [.int .u64 0, .int .u64 0, .int .u64 0, .int .u64 0, .int .u64 0, .int .u64 0, .int .u64 0, .int .u64 0, .int .u64 0, .int .u64 0, .int .u64 0, .int .u64 0, .slice none 0 0]) (l := [.int .u64 0, .int .u64 0, .int .u64 0, .int .u64 0, .int .u64 0, .int .u64 0, .int .u64 0, .int .u64 0, .int .u64 0, .int .u64 0, .int .u64 0, .int .u64 0, .slice none 0 0]) (T rfl rfl) (T rfl rfl) sz52 rfl rfl rfl H12 rfl ?_)
     intro w13 s14 H15
     have := s14.size
     have E16 := below_st E9 N4 s14
     refine lw_v (.slice none 0 0) (dv_assign C) ?_
     refine lw_v (.bool false) (dv_assign C) ?_
     refine lw_nil ?_
     refine rk_ret Try.func21 (v := .tuple #[.agg #[.int .u64 0, .int .u64 0, .int .u64 0, .int .u64 0, .int .u64 0, .int .u64 0, .int .u64 0, .int .u64 0, .int .u64 0, .int .u64 0, .int .u64 0, .int .u64 0, .slice none 0 0], .slice none 0 0, .bool false]) (res3 Try.results21 (rv_cells (l := [.int .u64 0, .int .u64 0, .int .u64 0, .int .u64 0, .int .u64 0, .int .u64 0, .int .u64 0, .int .u64 0, .int .u64 0, .int .u64 0, .int .u64 0, .int .u64 0, .slice none 0 0]) agt52 sz52 rfl rfl H15 rfl) (rv_tmp rfl rfl) (rv_tmp rfl rfl)) ⟨_, rfl, ?_⟩
     have hS : ¬ takS l Q := fun h_ => by first | exact absurd h_.1 (by assumption) | (have := h_.2; omega)
     refine ⟨none, 0, none, 0, fun _ => (none, 0), w.heap.size, ?_⟩
     rw [takE_f hS, takN_f hS, show decide (takS l Q) = false from decide_eq_false hS]
     exact ⟨rfl, E16, .nil0 E16.size, fun b o h_ => (by cases h_), ⟨Nat.le_refl _, by omega⟩, NO.nil E16.size (Nat.le_refl _)⟩
   · refine rk_cf (T rfl (congrArg Value.bool (decide_eq_false hb11))) ?_
     refine rk_skip ?_
     refine rk_seq ?_
     refine rk_reg ?_
     refine lw_v (.slice A l c) (dv_move (T rfl rfl)) ?_
     have h17 := (h6.ext e8)
     refine lw_e (oe_callf (vs := [.slice A l c]) co59 (ar1 (T rfl rfl)) (copyEvents_ok (c := c) h17 (by omega) hxf (evsOk_ne (by assumption)) (by omega)) ?_)
     rintro _ w23 ⟨At18, ct19, St20, rfl, e24, hct22, hNt21⟩
     have := Below.fresh e24
     have E25 := below_ext E9 E9.size e24
     refine lw_v (.slice At18 l ct19) (dv_assign (T rfl rfl)) ?_
     refine lw_nil ?_
     refine rk_seq ?_
     obtain ⟨As26, hAs28⟩ : ∃ q_ : Option Addr, q_ = (St20 0).1 := ⟨_, rfl⟩
     obtain ⟨cs27, hcs29⟩ : ∃ q_ : Nat, q_ = (St20 0).2 := ⟨_, rfl⟩
     refine rk_any (fun w => NR w w7.heap.size w23.heap.size At18 l (fun i_ => evW (Q i_)) (fun i_ => (Q i_).es) St20) [11] mo ?_
     intro w30 d31
     have := Below.fresh d31.ext
     have E32 := below_ext E25 E25.size d31.ext
     have h33 := (hNt21.ext d31.ext)
     refine aw_pure 0 (.slice At18 l ct19) rfl (by kernel_rfl) .none h33.nr (fun _ => dv_move (T rfl rfl)) ?_
     obtain ⟨g34, o35, rfl⟩ := NO.at h33 (by first | omega | (simp; done) | (simp; omega))
     refine aw_pure 1 (.pointer (some ⟨g34, o35 + 0 * 13, none⟩)) rfl (by kernel_rfl) .none h33.nr (fun _ => dv_indexM (g := g34) (o := o35) (l := l) (c := ct19) (i := 0) (j := 0) (m := 13) us46 sz52 (T rfl rfl) C (by omega) (by first | omega | (simp; done) | (simp; omega))) ?_
     refine aw_load 2 (.agg #[.int .u64 (wv3 ((Q 0).x)), .int .u64 (wv2 ((Q 0).x)), .int .u64 (wv1 ((Q 0).x)), .int .u64 (wv0 ((Q 0).x)), .int .u64 (wv3 ((Q 0).y)), .int .u64 (wv2 ((Q 0).y)), .int .u64 (wv1 ((Q 0).y)), .int .u64 (wv0 ((Q 0).y)), .int .u64 (wv3 ((Q 0).u)), .int .u64 (wv2 ((Q 0).u)), .int .u64 (wv1 ((Q 0).u)), .int .u64 (wv0 ((Q 0).u)), .slice As26 ((Q 0).es.length) cs27]) rfl (by kernel_rfl) .none h33.nr (fun _ s => dv_loadsR (l := [.int .u64 (wv3 ((Q 0).x)), .int .u64 (wv2 ((Q 0).x)), .int .u64 (wv1 ((Q 0).x)), .int .u64 (wv0 ((Q 0).x)), .int .u64 (wv3 ((Q 0).y)), .int .u64 (wv2 ((Q 0).y)), .int .u64 (wv1 ((Q 0).y)), .int .u64 (wv0 ((Q 0).y)), .int .u64 (wv3 ((Q 0).u)), .int .u64 (wv2 ((Q 0).u)), .int .u64 (wv1 ((Q 0).u)), .int .u64 (wv0 ((Q 0).u)), .slice As26 ((Q 0).es.length) cs27]) agt52 sz52 (T rfl rfl) rfl (NR.evA (i := 0) s (by first | omega | (simp; done) | (simp; omega)) hAs28 hcs29)) ?_
     refine aw_pure 3 (.slice (some ⟨g34, o35, none⟩) l ct19) rfl (by kernel_rfl) .none h33.nr (fun _ => dv_move (T rfl rfl)) ?_
     refine aw_pure 4 (.slice (some ⟨g34, o35, none⟩) l ct19) rfl (by kernel_rfl) .none h33.nr (fun _ => dv_move (T rfl rfl)) ?_
     refine aw_pure 5 (.int .i64 ((l : Int))) rfl (by kernel_rfl) .none h33.nr (fun _ => dv_len (ad := (some ⟨g34, o35, none⟩)) (l := l) (c := ct19) us46 (T rfl rfl)) ?_
     refine aw_pure 6 (.slice (some ⟨g34, o35, none⟩) l ct19) rfl (by kernel_rfl) .none h33.nr (fun _ => dv_move (T rfl rfl)) ?_
     refine aw_pure 7 (.int .i64 ((l : Int))) rfl (by kernel_rfl) .none h33.nr (fun _ => dv_len (ad := (some ⟨g34, o35, none⟩)) (l := l) (c := ct19) us46 (T rfl rfl)) ?_
     refine aw_pure 8 (.slice (tlA (some ⟨g34, o35, none⟩) l) (l - 1) (l - 1)) rfl (by kernel_rfl) .none h33.nr (fun _ => dv_slice3 (A := (some ⟨g34, o35, none⟩)) (l := l) (c := ct19) us46 sz52 (T rfl rfl) C (T rfl rfl) (T rfl rfl) (by omega) (by omega) (by first | omega | (simp; done) | (simp; omega)) (by first | omega | (simp; done) | (simp; omega))) ?_
     have H36 := (d31.ext.blk (e24.blk (e8.blk n3.blk)))
     refine aw_one 9 rfl (by kernel_rfl) .none (oe_store (v := .agg #[.int .u64 (wv3 ((Q 0).x)), .int .u64 (wv2 ((Q 0).x)), .int .u64 (wv1 ((Q 0).x)), .int .u64 (wv0 ((Q 0).x)), .int .u64 (wv3 ((Q 0).y)), .int .u64 (wv2 ((Q 0).y)), .int .u64 (wv1 ((Q 0).y)), .int .u64 (wv0 ((Q 0).y)), .int .u64 (wv3 ((Q 0).u)), .int .u64 (wv2 ((Q 0).u)), .int .u64 (wv1 ((Q 0).u)), .int .u64 (wv0 ((Q 0).u)), .slice As26 ((Q 0).es.length) cs27]) (vs := [.int .u64 (wv3 ((Q 0).x)), .int .u64 (wv2 ((Q 0).x)), .int .u64 (wv1 ((Q 0).x)), .int .u64 (wv0 ((Q 0).x)), .int .u64 (wv3 ((Q 0).y)), .int .u64 (wv2 ((Q 0).y)), .int .u64 (wv1 ((Q 0).y)), .int .u64 (wv0 ((Q 0).y)), .int .u64 (wv3 ((Q 0).u)), .int .u64 (wv2 ((Q 0).u)), .int .u64 (wv1 ((Q 0).u)), .int .u64 (wv0 ((Q 0).u)), .slice As26 ((Q 0).es.length) cs27]) (l := [.int .u64 (wv3 ((Q 0).x)), .int .u64 (wv2 ((Q 0).x)), .int .u64 (wv1 ((Q 0).x)), .int .u64 (wv0 ((Q 0).x)), .int .u64 (wv3 ((Q 0).y)), .int .u64 (wv2 ((Q 0).y)), .int .u64 (wv1 ((Q 0).y)), .int .u64 (wv0 ((Q 0).y)), .int .u64 (wv3 ((Q 0).u)), .int .u64 (wv2 ((Q 0).u)), .int .u64 (wv1 ((Q 0).u)), .int .u64 (wv0 ((Q 0).u)), .slice As26 ((Q 0).es.length) cs27]) (T rfl rfl) (T rfl rfl) sz52 rfl rfl rfl H36 rfl ?_)
     intro w37 s38 H39
     have := s38.size
     have E40 := below_st E32 N4 s38
     have h41 := (h33.st s38 (by omega))
     refine ⟨.inr h41.nr, ?_⟩
     refine aw_pure 10 (.slice (tlA (some ⟨g34, o35, none⟩) l) (l - 1) (l - 1)) rfl (by kernel_rfl) .none h41.nr (fun _ => dv_assign (T rfl rfl)) ?_
     refine aw_last 11 (.bool true) rfl (by kernel_rfl) .none (fun _ => dv_assign C) ?_
     refine aw_done (by kernel_rfl) ?_
     refine rk_ret Try.func21 (v := .tuple #[.agg #[.int .u64 (wv3 ((Q 0).x)), .int .u64 (wv2 ((Q 0).x)), .int .u64 (wv1 ((Q 0).x)), .int .u64 (wv0 ((Q 0).x)), .int .u64 (wv3 ((Q 0).y)), .int .u64 (wv2 ((Q 0).y)), .int .u64 (wv1 ((Q 0).y)), .int .u64 (wv0 ((Q 0).y)), .int .u64 (wv3 ((Q 0).u)), .int .u64 (wv2 ((Q 0).u)), .int .u64 (wv1 ((Q 0).u)), .int .u64 (wv0 ((Q 0).u)), .slice As26 ((Q 0).es.length) cs27], .slice (tlA (some ⟨g34, o35, none⟩) l) (l - 1) (l - 1), .bool true]) (res3 Try.results21 (rv_cells (l := [.int .u64 (wv3 ((Q 0).x)), .int .u64 (wv2 ((Q 0).x)), .int .u64 (wv1 ((Q 0).x)), .int .u64 (wv0 ((Q 0).x)), .int .u64 (wv3 ((Q 0).y)), .int .u64 (wv2 ((Q 0).y)), .int .u64 (wv1 ((Q 0).y)), .int .u64 (wv0 ((Q 0).y)), .int .u64 (wv3 ((Q 0).u)), .int .u64 (wv2 ((Q 0).u)), .int .u64 (wv1 ((Q 0).u)), .int .u64 (wv0 ((Q 0).u)), .slice As26 ((Q 0).es.length) cs27]) agt52 sz52 rfl rfl H39 rfl) (rv_tmp rfl rfl) (rv_tmp rfl rfl)) ⟨_, rfl, ?_⟩
     have hS : takS l Q := ⟨by assumption, by omega⟩
     have hne_ := evsOk_ne hS.1 0 hS.2
     obtain ⟨X_, hX1, hX2, hX3⟩ := (h41.ow (i := 0) (by omega)).some_of hne_
     refine ⟨As26, cs27, tlA (some ⟨g34, o35, none⟩) l, l - 1, fun i_ => St20 (i_ + 1), X_, ?_⟩
     rw [takE_t hS, takN_t hS, show decide (takS l Q) = true from decide_eq_true hS]
     refine ⟨rfl, E40, ?_, ?_, ⟨by omega, by omega⟩, ((h41.lo_le (by omega)).hi_mono (by omega) (Nat.le_refl _)).tl (by decide) (by omega) hX1 (by omega)⟩
     · rw [hAs28, hcs29]; exact (h41.ow (i := 0) (by omega)).mono (by omega)
     · intro b o h_; rw [hAs28, hX1] at h_; injection h_ with h_; injection h_ with h_ _ _; exact h_.symm
 · refine lw_no (d := 9) rfl rfl (congrArg Value.bool (decide_eq_true hb10)) ?_
   refine lw_no (d := 9) rfl rfl (congrArg Value.bool (decide_eq_true hb10)) ?_
   refine lw_no (d := 9) rfl rfl (congrArg Value.bool (decide_eq_true hb10)) ?_
   refine lw_v (.bool true) (dv_pick_t (T rfl (congrArg Value.bool (decide_eq_true hb10))) C) ?_
   refine lw_nil ?_
   refine rk_ct (T rfl rfl) ?_
   refine rk_seq ?_
   refine rk_reg ?_
   refine lw_v (.agg #[.int .u64 0, .int .u64 0, .int .u64 0, .int .u64 0, .int .u64 0, .int .u64 0, .int .u64 0, .int .u64 0, .int .u64 0, .int .u64 0, .int .u64 0, .int .u64 0, .slice none 0 0]) (dv_build (pv := []) (l := [.int .u64 0, .int .u64 0, .int .u64 0, .int .u64 0, .int .u64 0, .int .u64 0, .int .u64 0, .int .u64 0, .int .u64 0, .int .u64 0, .int .u64 0, .int .u64 0, .slice none 0 0]) zc52 pl52 trivial rfl) ?_
   have H42 := (e8.blk n3.blk)
   refine lw_e (oe_store (v := .agg #[.int .u64 0, .int .u64 0, .int .u64 0, .int .u64 0, .int .u64 0, .int .u64 0, .int .u64 0, .int .u64 0, .int .u64 0, .int .u64 0, .int .u64 0, .int .u64 0, .slice none 0 0]) (vs := [.int .u64 0, .int .u64 0, .int .u64 0, .int .u64 0, .int .u64 0, .int .u64 0, .int .u64 0, .int .u64 0, .int .u64 0, .int .u64 0, .int .u64 0, .int .u64 0, .slice none 0 0]) (l := [.int .u64 0, .int .u64 0, .int .u64 0, .int .u64 0, .int .u64 0, .int .u64 0, .int .u64 0, .int .u64 0, .int .u64 0, .int .u64 0, .int .u64 0, .int .u64 0, .slice none 0 0]) (T rfl rfl) (T rfl rfl) sz52 rfl rfl rfl H42 rfl ?_)
   intro w43 s44 H45
   have := s44.size
   have E46 := below_st E9 N4 s44
   refine lw_v (.slice none 0 0) (dv_assign C) ?_
   refine lw_v (.bool false) (dv_assign C) ?_
   refine lw_nil ?_
   refine rk_ret Try.func21 (v := .tuple #[.agg #[.int .u64 0, .int .u64 0, .int .u64 0, .int .u64 0, .int .u64 0, .int .u64 0, .int .u64 0, .int .u64 0, .int .u64 0, .int .u64 0, .int .u64 0, .int .u64 0, .slice none 0 0], .slice none 0 0, .bool false]) (res3 Try.results21 (rv_cells (l := [.int .u64 0, .int .u64 0, .int .u64 0, .int .u64 0, .int .u64 0, .int .u64 0, .int .u64 0, .int .u64 0, .int .u64 0, .int .u64 0, .int .u64 0, .int .u64 0, .slice none 0 0]) agt52 sz52 rfl rfl H45 rfl) (rv_tmp rfl rfl) (rv_tmp rfl rfl)) ⟨_, rfl, ?_⟩
   have hS : ¬ takS l Q := fun h_ => by first | exact absurd h_.1 (by assumption) | (have := h_.2; omega)
   refine ⟨none, 0, none, 0, fun _ => (none, 0), w.heap.size, ?_⟩
   rw [takE_f hS, takN_f hS, show decide (takS l Q) = false from decide_eq_false hS]
   exact ⟨rfl, E46, .nil0 E46.size, fun b o h_ => (by cases h_), ⟨Nat.le_refl _, by omega⟩, NO.nil E46.size (Nat.le_refl _)⟩
end Go.Proofs.Ytmbpomcbdopgnaa.W
