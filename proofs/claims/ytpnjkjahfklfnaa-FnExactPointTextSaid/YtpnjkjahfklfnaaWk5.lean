/- Wk5: walks, written by a program of this session. -/
import Derived.Test.YtpnjkjahfklfnaaWk3
import Derived.Test.YtpnjkjahfklfnaaMa4
set_option linter.unusedVariables false
set_option linter.unusedSimpArgs false
namespace Go.Proofs.Ytpnjkjahfklfnaa.W
open Go Go.RowKit Go.Proofs.Ytpnjkjahfklfnaa.Fw
attribute [local irreducible] RunK LW AW DV OE Ct
theorem co101 : callOk Try.prog 101 = true := by kernel_rfl
theorem co116 : callOk Try.prog 116 = true := by kernel_rfl
theorem co117 : callOk Try.prog 117 = true := by kernel_rfl
theorem co69 : callOk Try.prog 69 = true := by kernel_rfl
theorem co87 : callOk Try.prog 87 = true := by kernel_rfl
theorem co99 : callOk Try.prog 99 = true := by kernel_rfl
set_option maxHeartbeats 1000000 in
theorem l1CmpAbs_ok {w : World} {A D : Option Addr} {c d : Nat} {xs ys : List Int} (hx : Wd w 115 .u32 A xs) (hy : Wd w 115 .u32 D ys) (ox : okW (2 ^ 32) xs) (oy : okW (2 ^ 32) ys) (cx : canon xs) (cy : canon ys) (lx : xs.length ≤ 1000000) (ly : ys.length ≤ 1000000) : Ct Try.prog 116 [.slice A (xs.length) c, .slice D (ys.length) d] w fun v w1 => ∃ r : Int, v = .int .i64 r ∧ Ext w w1 ∧ cmpR r (valB (2 ^ 32) xs) (valB (2 ^ 32) ys) := by
  refine ct_run (n := 41) Try.func116 rfl Try.ntmps116 rfl ?_
  have E0 : Below w.heap.size w w := Below.refl _ _
  refine rk_seq ?_
  refine rk_reg ?_
  refine lw_v (.int .i64 0) (dv_assign C) ?_
  refine lw_nil ?_
  refine rk_seq ?_
  refine rk_seq ?_
  refine rk_reg ?_
  refine lw_v (.slice A (xs.length) c) (dv_move (T rfl rfl)) ?_
  refine lw_v (.int .i64 ((xs.length : Int))) (dv_len (ad := A) (l := xs.length) (c := c) us60 (T rfl rfl)) ?_
  refine lw_v (.slice D (ys.length) d) (dv_move (T rfl rfl)) ?_
  refine lw_v (.int .i64 ((ys.length : Int))) (dv_len (ad := D) (l := ys.length) (c := d) us60 (T rfl rfl)) ?_
  refine lw_v (.bool (decide (((xs.length : Int)) ≠ ((ys.length : Int))))) (dv_neq (a := (xs.length : Int)) (b := (ys.length : Int)) (T rfl rfl) (T rfl rfl)) ?_
  refine lw_nil ?_
  by_cases hb1 : ((xs.length : Int)) ≠ ((ys.length : Int))
  · -- T
    refine rk_ct (T rfl (congrArg Value.bool (decide_eq_true hb1))) ?_
    refine rk_seq ?_
    refine rk_seq ?_
    refine rk_reg ?_
    refine lw_v (.slice A (xs.length) c) (dv_move (T rfl rfl)) ?_
    refine lw_v (.int .i64 ((xs.length : Int))) (dv_len (ad := A) (l := xs.length) (c := c) us60 (T rfl rfl)) ?_
    refine lw_v (.slice D (ys.length) d) (dv_move (T rfl rfl)) ?_
    refine lw_v (.int .i64 ((ys.length : Int))) (dv_len (ad := D) (l := ys.length) (c := d) us60 (T rfl rfl)) ?_
    refine lw_v (.bool (decide (((xs.length : Int)) < ((ys.length : Int))))) (dv_lss (a := (xs.length : Int)) (b := (ys.length : Int)) (T rfl rfl) (T rfl rfl)) ?_
    refine lw_nil ?_
    by_cases hb2 : ((xs.length : Int)) < ((ys.length : Int))
    · -- TT
      refine rk_ct (T rfl (congrArg Value.bool (decide_eq_true hb2))) ?_
      refine rk_seq ?_
      refine rk_reg ?_
      refine lw_v (.int .i64 (-1)) (dv_assign C) ?_
      refine lw_nil ?_
      refine rk_ret Try.func116 (v := .int .i64 (-1)) (res1 Try.results116 (rv_tmp rfl rfl)) ⟨_, rfl, ?_⟩
      exact ⟨_, rfl, E0, cmp_len32 ox oy cx cy (by omega) (by omega)⟩
    · -- TF
      refine rk_cf (T rfl (congrArg Value.bool (decide_eq_false hb2))) ?_
      refine rk_skip ?_
      refine rk_seq ?_
      refine rk_reg ?_
      refine lw_v (.int .i64 1) (dv_assign C) ?_
      refine lw_nil ?_
      refine rk_ret Try.func116 (v := .int .i64 1) (res1 Try.results116 (rv_tmp rfl rfl)) ⟨_, rfl, ?_⟩
      exact ⟨_, rfl, E0, cmp_len32' ox oy cx cy (by omega)⟩
  · -- F
    refine rk_cf (T rfl (congrArg Value.bool (decide_eq_false hb1))) ?_
    refine rk_skip ?_
    refine rk_seq ?_
    refine rk_seq ?_
    refine rk_reg ?_
    refine lw_v (.slice A (xs.length) c) (dv_move (T rfl rfl)) ?_
    refine lw_v (.int .i64 ((xs.length : Int))) (dv_len (ad := A) (l := xs.length) (c := c) us60 (T rfl rfl)) ?_
    refine lw_v (.int .i64 (((xs.length : Int)) - 1)) (dv_sub (a := (xs.length : Int)) (b := 1) (z := ((xs.length : Int)) - 1) (T rfl rfl) C (wr_i64 (by omega) (by omega))) ?_
    refine lw_v (.int .i64 (((xs.length : Int)) - 1)) (dv_assign (T rfl rfl)) ?_
    refine lw_nil ?_
    refine rk_block ?_
    refine rk_loop (fun dm_ fr wl => ∃ (n : Nat), dm_ = n ∧ fr 0 = .slice A (xs.length) c ∧ fr 1 = .slice D (ys.length) d ∧ fr 5 = .int .i64 ((n : Int) - 1) ∧ Below w.heap.size w wl ∧ (n ≤ xs.length) ∧ (xs.drop n = ys.drop n)) (xs.length) ⟨xs.length, rfl, rfl, rfl, (vi (by omega)), E0, (Nat.le_refl _), (by rw [List.drop_of_length_le (Nat.le_refl _), List.drop_of_length_le (by omega)])⟩ ?_
    intro d7 fr6 w3 hI4 ih5
    obtain ⟨n, hd12, f8, f9, f10, E11, hn, hd⟩ := hI4
    refine rk_seq ?_
    refine rk_seq ?_
    refine rk_reg ?_
    refine lw_v (.int .i64 ((n : Int) - 1)) (dv_move (T rfl f10)) ?_
    refine lw_v (.bool (decide (0 ≤ ((n : Int) - 1)))) (dv_geq (a := (n : Int) - 1) (b := 0) (T rfl rfl) C) ?_
    refine lw_nil ?_
    by_cases hb13 : 0 ≤ ((n : Int) - 1)
    · -- FLT
      refine rk_ct (T rfl (congrArg Value.bool (decide_eq_true hb13))) ?_
      refine rk_skip ?_
      refine rk_seq ?_
      refine rk_block ?_
      refine rk_seq ?_
      refine rk_seq ?_
      have h14 := (hx.ext E11)
      have h15 := (hy.ext E11)
      refine rk_any (fun w => Wd w 115 .u32 A xs ∧ Wd w 115 .u32 D ys) [] mo ?_
      intro w16 d17
      have E18 := below_ext E11 E11.size d17.ext
      have h19 := (h14.ext d17.ext)
      have h20 := (h15.ext d17.ext)
      refine aw_pure 0 (.slice A (xs.length) c) rfl (by kernel_rfl) .none ⟨h19, h20⟩ (fun _ => dv_move (T rfl f8)) ?_
      refine aw_pure 1 (.int .i64 ((n : Int) - 1)) rfl (by kernel_rfl) .none ⟨h19, h20⟩ (fun _ => dv_move (T rfl f10)) ?_
      obtain ⟨g21, o22, rfl⟩ := Wd.at h19 (by omega)
      refine aw_pure 2 (.pointer (some ⟨g21, o22 + (n - 1), none⟩)) rfl (by kernel_rfl) .none ⟨h19, h20⟩ (fun _ => dv_indexW (g := g21) (o := o22) (l := xs.length) (c := c) (i := (n - 1)) (j := (n : Int) - 1) us60 sz115 (T rfl rfl) (T rfl rfl) (by omega) (by omega)) ?_
      refine aw_load 3 (.int .u32 (xs.getD ((n - 1)) 0)) rfl (by kernel_rfl) .none ⟨h19, h20⟩ (fun _ s => dv_load agt115 (T rfl rfl) (Wd.cell s.1 (by omega))) ?_
      refine aw_pure 4 (.slice D (ys.length) d) rfl (by kernel_rfl) .none ⟨h19, h20⟩ (fun _ => dv_move (T rfl f9)) ?_
      refine aw_pure 5 (.int .i64 ((n : Int) - 1)) rfl (by kernel_rfl) .none ⟨h19, h20⟩ (fun _ => dv_move (T rfl f10)) ?_
      obtain ⟨g23, o24, rfl⟩ := Wd.at h20 (by omega)
      refine aw_pure 6 (.pointer (some ⟨g23, o24 + (n - 1), none⟩)) rfl (by kernel_rfl) .none ⟨h19, h20⟩ (fun _ => dv_indexW (g := g23) (o := o24) (l := ys.length) (c := d) (i := (n - 1)) (j := (n : Int) - 1) us60 sz115 (T rfl rfl) (T rfl rfl) (by omega) (by omega)) ?_
      refine aw_load 7 (.int .u32 (ys.getD ((n - 1)) 0)) rfl (by kernel_rfl) .none ⟨h19, h20⟩ (fun _ s => dv_load agt115 (T rfl rfl) (Wd.cell s.2 (by omega))) ?_
      refine aw_pure 8 (.bool (decide ((xs.getD ((n - 1)) 0) < (ys.getD ((n - 1)) 0)))) rfl (by kernel_rfl) .none ⟨h19, h20⟩ (fun _ => dv_lss (a := xs.getD ((n - 1)) 0) (b := ys.getD ((n - 1)) 0) (T rfl rfl) (T rfl rfl)) ?_
      refine aw_done (by kernel_rfl) ?_
      by_cases hb25 : (xs.getD ((n - 1)) 0) < (ys.getD ((n - 1)) 0)
      · -- FLTT
        refine rk_ct (T rfl (congrArg Value.bool (decide_eq_true hb25))) ?_
        refine rk_seq ?_
        refine rk_reg ?_
        refine lw_v (.int .i64 (-1)) (dv_assign C) ?_
        refine lw_nil ?_
        refine rk_ret Try.func116 (v := .int .i64 (-1)) (res1 Try.results116 (rv_tmp rfl rfl)) ⟨_, rfl, ?_⟩
        exact ⟨_, rfl, E18, cmp_lt (cmp_word (by decide) ox oy n (by omega) (by omega) (by omega) hd (by assumption))⟩
      · -- FLTF
        refine rk_cf (T rfl (congrArg Value.bool (decide_eq_false hb25))) ?_
        refine rk_skip ?_
        refine rk_seq ?_
        refine rk_any (fun w => Wd w 115 .u32 (some ⟨g21, o22, none⟩) xs ∧ Wd w 115 .u32 (some ⟨g23, o24, none⟩) ys) [] mo ?_
        intro w26 d27
        have E28 := below_ext E18 E18.size d27.ext
        have h29 := (h19.ext d27.ext)
        have h30 := (h20.ext d27.ext)
        refine aw_pure 0 (.slice (some ⟨g21, o22, none⟩) (xs.length) c) rfl (by kernel_rfl) .none ⟨h29, h30⟩ (fun _ => dv_move (T rfl f8)) ?_
        refine aw_pure 1 (.int .i64 ((n : Int) - 1)) rfl (by kernel_rfl) .none ⟨h29, h30⟩ (fun _ => dv_move (T rfl f10)) ?_
        refine aw_pure 2 (.pointer (some ⟨g21, o22 + (n - 1), none⟩)) rfl (by kernel_rfl) .none ⟨h29, h30⟩ (fun _ => dv_indexW (g := g21) (o := o22) (l := xs.length) (c := c) (i := (n - 1)) (j := (n : Int) - 1) us60 sz115 (T rfl rfl) (T rfl rfl) (by omega) (by omega)) ?_
        refine aw_load 3 (.int .u32 (xs.getD ((n - 1)) 0)) rfl (by kernel_rfl) .none ⟨h29, h30⟩ (fun _ s => dv_load agt115 (T rfl rfl) (Wd.cell s.1 (by omega))) ?_
        refine aw_pure 4 (.slice (some ⟨g23, o24, none⟩) (ys.length) d) rfl (by kernel_rfl) .none ⟨h29, h30⟩ (fun _ => dv_move (T rfl f9)) ?_
        refine aw_pure 5 (.int .i64 ((n : Int) - 1)) rfl (by kernel_rfl) .none ⟨h29, h30⟩ (fun _ => dv_move (T rfl f10)) ?_
        refine aw_pure 6 (.pointer (some ⟨g23, o24 + (n - 1), none⟩)) rfl (by kernel_rfl) .none ⟨h29, h30⟩ (fun _ => dv_indexW (g := g23) (o := o24) (l := ys.length) (c := d) (i := (n - 1)) (j := (n : Int) - 1) us60 sz115 (T rfl rfl) (T rfl rfl) (by omega) (by omega)) ?_
        refine aw_load 7 (.int .u32 (ys.getD ((n - 1)) 0)) rfl (by kernel_rfl) .none ⟨h29, h30⟩ (fun _ s => dv_load agt115 (T rfl rfl) (Wd.cell s.2 (by omega))) ?_
        refine aw_pure 8 (.bool (decide ((ys.getD ((n - 1)) 0) < (xs.getD ((n - 1)) 0)))) rfl (by kernel_rfl) .none ⟨h29, h30⟩ (fun _ => dv_gtr (a := xs.getD ((n - 1)) 0) (b := ys.getD ((n - 1)) 0) (T rfl rfl) (T rfl rfl)) ?_
        refine aw_done (by kernel_rfl) ?_
        by_cases hb31 : (ys.getD ((n - 1)) 0) < (xs.getD ((n - 1)) 0)
        · -- FLTFT
          refine rk_ct (T rfl (congrArg Value.bool (decide_eq_true hb31))) ?_
          refine rk_seq ?_
          refine rk_reg ?_
          refine lw_v (.int .i64 1) (dv_assign C) ?_
          refine lw_nil ?_
          refine rk_ret Try.func116 (v := .int .i64 1) (res1 Try.results116 (rv_tmp rfl rfl)) ⟨_, rfl, ?_⟩
          exact ⟨_, rfl, E28, cmp_gt (cmp_word (by decide) oy ox n (by omega) (by omega) (by omega) hd.symm (by assumption))⟩
        · -- FLTFF
          refine rk_cf (T rfl (congrArg Value.bool (decide_eq_false hb31))) ?_
          refine rk_skip ?_
          refine rk_inBlock ?_
          refine rk_reg ?_
          refine lw_v (.int .i64 ((n : Int) - 1)) (dv_move (T rfl f10)) ?_
          refine lw_v (.int .i64 (((n : Int) - 1) - 1)) (dv_sub (a := (n : Int) - 1) (b := 1) (z := ((n : Int) - 1) - 1) (T rfl rfl) C (wr_i64 (by omega) (by omega))) ?_
          refine lw_v (.int .i64 (((n : Int) - 1) - 1)) (dv_assign (T rfl rfl)) ?_
          refine lw_nil ?_
          exact ih5 (((n - 1))) _ _ (by rw [hd12]; omega) ⟨(n - 1), rfl, f8, f9, (vi (by omega)), E28, (by omega), (drop_step xs ys n (by omega) (by omega) (by omega) hd (by omega))⟩
    · -- FLF
      refine rk_cf (T rfl (congrArg Value.bool (decide_eq_false hb13))) ?_
      refine rk_exit rfl ?_
      refine rk_seq ?_
      refine rk_reg ?_
      refine lw_v (.int .i64 0) (dv_assign C) ?_
      refine lw_nil ?_
      refine rk_ret Try.func116 (v := .int .i64 0) (res1 Try.results116 (rv_tmp rfl rfl)) ⟨_, rfl, ?_⟩
      exact ⟨_, rfl, E11, (cmp_same (by have hn0 : n = 0 := (by omega); subst hn0; simpa using hd))⟩

theorem l1CmpAbs_wc {w : World} {A D : Option Addr} {l c l' d : Nat} {x y : Int} (h : Wc 32 115 .u32 w A l c x) (h' : Wc 32 115 .u32 w D l' d y) (hl : l ≤ 1000000) (hl' : l' ≤ 1000000) : Ct Try.prog 116 [.slice A l c, .slice D l' d] w fun v w1 =>
    ∃ r : Int, v = .int .i64 r ∧ Ext w w1 ∧ cmpR r x y := by
  obtain ⟨xs, rfl, hc, hw, ho, hk, rfl⟩ := h
  obtain ⟨ys, rfl, hc', hw', ho', hk', rfl⟩ := h'
  exact l1CmpAbs_ok hw hw' ho ho' hk hk' hl hl'

set_option maxHeartbeats 1000000 in
theorem l1AddAbs_ok {w : World} {A D : Option Addr} {c d : Nat} {xs ys : List Int} (hx : Wd w 115 .u32 A xs) (hy : Wd w 115 .u32 D ys) (hc : xs.length ≤ c) (hd : ys.length ≤ d) (ox : okW (2 ^ 32) xs) (oy : okW (2 ^ 32) ys) (lx : xs.length ≤ 500000) (ly : ys.length ≤ 500000) : Ct Try.prog 117 [.slice A (xs.length) c, .slice D (ys.length) d] w fun v w1 => ∃ A' n c', v = .slice A' n c' ∧ Ext w w1 ∧ Ws 32 115 .u32 w1 A' n c' (valB (2 ^ 32) xs + valB (2 ^ 32) ys) ∧ n ≤ xs.length + ys.length + 1 := by
  refine ct_run (n := 58) Try.func117 rfl Try.ntmps117 rfl ?_
  have E0 : Below w.heap.size w w := Below.refl _ _
  refine rk_seq ?_
  refine rk_reg ?_
  refine lw_v (.slice none 0 0) (dv_assign C) ?_
  refine lw_nil ?_
  refine rk_seq ?_
  refine rk_seq ?_
  refine rk_reg ?_
  refine lw_v (.slice A (xs.length) c) (dv_move (T rfl rfl)) ?_
  refine lw_v (.int .i64 ((xs.length : Int))) (dv_len (ad := A) (l := xs.length) (c := c) us60 (T rfl rfl)) ?_
  refine lw_v (.slice D (ys.length) d) (dv_move (T rfl rfl)) ?_
  refine lw_v (.int .i64 ((ys.length : Int))) (dv_len (ad := D) (l := ys.length) (c := d) us60 (T rfl rfl)) ?_
  refine lw_v (.bool (decide (((xs.length : Int)) < ((ys.length : Int))))) (dv_lss (a := (xs.length : Int)) (b := (ys.length : Int)) (T rfl rfl) (T rfl rfl)) ?_
  refine lw_nil ?_
  by_cases hb1 : ((xs.length : Int)) < ((ys.length : Int))
  · -- T
    refine rk_ct (T rfl (congrArg Value.bool (decide_eq_true hb1))) ?_
    refine rk_reg ?_
    refine lw_v (.slice D (ys.length) d) (dv_move (T rfl rfl)) ?_
    refine lw_v (.slice A (xs.length) c) (dv_move (T rfl rfl)) ?_
    refine lw_v (.slice D (ys.length) d) (dv_assign (T rfl rfl)) ?_
    refine lw_v (.slice A (xs.length) c) (dv_assign (T rfl rfl)) ?_
    refine lw_nil ?_
    refine rk_seq ?_
    refine rk_reg ?_
    refine lw_v (.slice D (ys.length) d) (dv_move (T rfl rfl)) ?_
    refine lw_v (.int .i64 ((ys.length : Int))) (dv_len (ad := D) (l := ys.length) (c := d) us60 (T rfl rfl)) ?_
    refine lw_v (.int .i64 (((ys.length : Int)) + 1)) (dv_add (a := (ys.length : Int)) (b := 1) (z := ((ys.length : Int)) + 1) (T rfl rfl) C (wr_i64 (by omega) (by omega))) ?_
    refine lw_e (oe_makeCapW (c := ((ys.length) + 1)) (j := ((ys.length : Int)) + 1) us60 in115 C (T rfl rfl) (by omega) (by first | omega | (simp; done) | (simp; omega)) (by first | omega | (simp; done) | (simp; omega)) ?_)
    intro b2 w3 n4 hO5
    have N6 : w.heap.size ≤ b2 := n4.eq ▸ E0.size
    have E7 := below_ext E0 E0.size n4.ext
    refine lw_v (.slice (some ⟨b2, 0, none⟩) (([] : List Int).length) (((ys.length) + 1))) (dv_assign (T rfl rfl)) ?_
    refine lw_nil ?_
    refine rk_seq ?_
    refine rk_reg ?_
    refine lw_v (.int .u64 0) (dv_assign C) ?_
    refine lw_nil ?_
    refine rk_seq ?_
    refine rk_seq ?_
    refine rk_reg ?_
    refine lw_v (.int .i64 0) (dv_assign C) ?_
    refine lw_nil ?_
    refine rk_block ?_
    refine rk_loop (fun dm_ fr wl => ∃ (i : Nat) (L : List Int) (Ad : Option Addr) (cp : Nat) (cy : Int), dm_ = ys.length - i ∧ fr 0 = .slice D (ys.length) d ∧ fr 1 = .slice A (xs.length) c ∧ fr 4 = .slice none 0 0 ∧ fr 5 = .slice Ad (L.length) cp ∧ fr 6 = .int .u64 cy ∧ fr 7 = .int .i64 ((i : Int)) ∧ Below w.heap.size w wl ∧ Ow wl b2 115 .u32 Ad cp L ∧ (i ≤ ys.length) ∧ (L.length = i) ∧ (okW (2 ^ 32) L) ∧ (0 ≤ cy ∧ cy ≤ 1) ∧ (valB (2 ^ 32) L + cy * (2 ^ 32) ^ i = valB (2 ^ 32) (ys.take i) + valB (2 ^ 32) (xs.take i))) (ys.length - 0) ⟨0, ([] : List Int), (some ⟨b2, 0, none⟩), (((ys.length) + 1)), 0, rfl, rfl, rfl, rfl, rfl, rfl, (vi (by omega)), E7, hO5, (Nat.zero_le _), rfl, okW.nil, (by decide), (by simp [valB])⟩ ?_
    intro d12 fr11 w8 hI9 ih10
    obtain ⟨i, L, Ad, cp, cy, hd21, f13, f14, f15, f16, f17, f18, E19, h20, hi, hl, hok, hcy, hv⟩ := hI9
    have bxs := okW.getD ox (by decide) i
    have gxs := getD_ge xs i
    have bys := okW.getD oy (by decide) i
    have gys := getD_ge ys i
    refine rk_seq ?_
    refine rk_seq ?_
    refine rk_reg ?_
    refine lw_v (.int .i64 ((i : Int))) (dv_move (T rfl f18)) ?_
    refine lw_v (.slice D (ys.length) d) (dv_move (T rfl f13)) ?_
    refine lw_v (.int .i64 ((ys.length : Int))) (dv_len (ad := D) (l := ys.length) (c := d) us60 (T rfl rfl)) ?_
    refine lw_v (.bool (decide (((i : Int)) < ((ys.length : Int))))) (dv_lss (a := (i : Int)) (b := (ys.length : Int)) (T rfl rfl) (T rfl rfl)) ?_
    refine lw_nil ?_
    by_cases hb22 : ((i : Int)) < ((ys.length : Int))
    · -- TLT
      refine rk_ct (T rfl (congrArg Value.bool (decide_eq_true hb22))) ?_
      refine rk_skip ?_
      refine rk_seq ?_
      refine rk_block ?_
      refine rk_seq ?_
      refine rk_reg ?_
      refine lw_v (.int .u64 cy) (dv_move (T rfl f17)) ?_
      refine lw_v (.slice D (ys.length) d) (dv_move (T rfl f13)) ?_
      refine lw_v (.int .i64 ((i : Int))) (dv_move (T rfl f18)) ?_
      have h23 := (hy.ext E19)
      obtain ⟨g24, o25, rfl⟩ := Wd.at h23 (by first | omega | (simp; done) | (simp; omega))
      refine lw_v (.pointer (some ⟨g24, o25 + i, none⟩)) (dv_indexW (g := g24) (o := o25) (l := ys.length) (c := d) (i := i) (j := (i : Int)) us60 sz115 (T rfl rfl) (T rfl rfl) (by omega) (by first | omega | (simp; done) | (simp; omega))) ?_
      refine lw_v (.int .u32 (ys.getD i 0)) (dv_load agt115 (T rfl rfl) (Wd.cell h23 (by first | omega | (simp; done) | (simp; omega)))) ?_
      refine lw_v (.int .u64 (ys.getD i 0)) (dv_conv (a := ys.getD i 0) (z := ys.getD i 0) ui115 ui22 (T rfl rfl) (wn_u64 (by omega) (by omega))) ?_
      refine lw_v (.int .u64 (cy + (ys.getD i 0))) (dv_add (a := cy) (b := ys.getD i 0) (z := cy + (ys.getD i 0)) (T rfl rfl) (T rfl rfl) (wn_u64 (by omega) (by omega))) ?_
      refine lw_v (.int .u64 (cy + (ys.getD i 0))) (dv_assign (T rfl rfl)) ?_
      refine lw_nil ?_
      refine rk_seq ?_
      refine rk_seq ?_
      refine rk_reg ?_
      refine lw_v (.int .i64 ((i : Int))) (dv_move (T rfl f18)) ?_
      refine lw_v (.slice A (xs.length) c) (dv_move (T rfl f14)) ?_
      refine lw_v (.int .i64 ((xs.length : Int))) (dv_len (ad := A) (l := xs.length) (c := c) us60 (T rfl rfl)) ?_
      refine lw_v (.bool (decide (((i : Int)) < ((xs.length : Int))))) (dv_lss (a := (i : Int)) (b := (xs.length : Int)) (T rfl rfl) (T rfl rfl)) ?_
      refine lw_nil ?_
      by_cases hb26 : ((i : Int)) < ((xs.length : Int))
      · -- TLTT
        refine rk_ct (T rfl (congrArg Value.bool (decide_eq_true hb26))) ?_
        refine rk_reg ?_
        refine lw_v (.int .u64 (cy + (ys.getD i 0))) (dv_move (T rfl rfl)) ?_
        refine lw_v (.slice A (xs.length) c) (dv_move (T rfl f14)) ?_
        refine lw_v (.int .i64 ((i : Int))) (dv_move (T rfl f18)) ?_
        have h27 := (hx.ext E19)
        obtain ⟨g28, o29, rfl⟩ := Wd.at h27 (by first | omega | (simp; done) | (simp; omega))
        refine lw_v (.pointer (some ⟨g28, o29 + i, none⟩)) (dv_indexW (g := g28) (o := o29) (l := xs.length) (c := c) (i := i) (j := (i : Int)) us60 sz115 (T rfl rfl) (T rfl rfl) (by omega) (by first | omega | (simp; done) | (simp; omega))) ?_
        refine lw_v (.int .u32 (xs.getD i 0)) (dv_load agt115 (T rfl rfl) (Wd.cell h27 (by first | omega | (simp; done) | (simp; omega)))) ?_
        refine lw_v (.int .u64 (xs.getD i 0)) (dv_conv (a := xs.getD i 0) (z := xs.getD i 0) ui115 ui22 (T rfl rfl) (wn_u64 (by omega) (by omega))) ?_
        refine lw_v (.int .u64 ((cy + (ys.getD i 0)) + (xs.getD i 0))) (dv_add (a := cy + (ys.getD i 0)) (b := xs.getD i 0) (z := (cy + (ys.getD i 0)) + (xs.getD i 0)) (T rfl rfl) (T rfl rfl) (wn_u64 (by omega) (by omega))) ?_
        refine lw_v (.int .u64 ((cy + (ys.getD i 0)) + (xs.getD i 0))) (dv_assign (T rfl rfl)) ?_
        refine lw_nil ?_
        refine rk_seq ?_
        refine rk_reg ?_
        refine lw_v (.slice Ad (L.length) cp) (dv_move (T rfl f16)) ?_
        refine lw_v (.int .u64 ((cy + (ys.getD i 0)) + (xs.getD i 0))) (dv_move (T rfl rfl)) ?_
        refine lw_v (.int .u32 (((cy + (ys.getD i 0)) + (xs.getD i 0)) % 4294967296)) (dv_conv (a := (cy + (ys.getD i 0)) + (xs.getD i 0)) (z := ((cy + (ys.getD i 0)) + (xs.getD i 0)) % 4294967296) ui22 ui115 (T rfl rfl) (wr_u32 _)) ?_
        refine lw_e (oe_buildSlice (pv := [(0, .int .u32 (((cy + (ys.getD i 0)) + (xs.getD i 0)) % 4294967296))]) (init := [.int .u32 0]) (l := [.int .u32 (((cy + (ys.getD i 0)) + (xs.getD i 0)) % 4294967296)]) us60 sz115 rfl rfl zc115 (by kernel_rfl) ⟨rfl, (T rfl rfl), trivial⟩ rfl ?_)
        intro b30 w31 n32
        have N33 : w.heap.size ≤ b30 := n32.eq ▸ E19.size
        have E34 := below_ext E19 E19.size n32.ext
        have h35 := (h20.ext n32.ext)
        refine lw_e (oe_appendW (base := b2) (L := L) (M := [((cy + (ys.getD i 0)) + (xs.getD i 0)) % 4294967296]) (m := 1) us60 in115 (T rfl rfl) (T rfl rfl) h35 (Wd.ownW (xs := [((cy + (ys.getD i 0)) + (xs.getD i 0)) % 4294967296]) n32.blk) rfl (by first | omega | (simp; done) | (simp; omega)) (by first | omega | (simp; done) | (simp; omega)) ?_)
        intro Ad36 c37 w38 hO39 x40
        have E41 := below_bl E34 N6 x40
        refine lw_v (.slice Ad36 ((L ++ [((cy + (ys.getD i 0)) + (xs.getD i 0)) % 4294967296]).length) c37) (dv_assign (T rfl rfl)) ?_
        refine lw_nil ?_
        refine rk_reg ?_
        refine lw_v (.int .u64 ((cy + (ys.getD i 0)) + (xs.getD i 0))) (dv_move (T rfl rfl)) ?_
        refine lw_v (.int .u64 (((cy + (ys.getD i 0)) + (xs.getD i 0)) / 4294967296)) (dv_shr (a := (cy + (ys.getD i 0)) + (xs.getD i 0)) (b := 32) (z := ((cy + (ys.getD i 0)) + (xs.getD i 0)) / 4294967296) (T rfl rfl) C (by decide) (shr_c (n := 32) (by omega) (by decide))) ?_
        refine lw_v (.int .u64 (((cy + (ys.getD i 0)) + (xs.getD i 0)) / 4294967296)) (dv_assign (T rfl rfl)) ?_
        refine lw_nil ?_
        refine rk_inBlock ?_
        refine rk_reg ?_
        refine lw_v (.int .i64 ((i : Int))) (dv_move (T rfl f18)) ?_
        refine lw_v (.int .i64 (((i : Int)) + 1)) (dv_add (a := (i : Int)) (b := 1) (z := ((i : Int)) + 1) (T rfl rfl) C (wr_i64 (by omega) (by omega))) ?_
        refine lw_v (.int .i64 (((i : Int)) + 1)) (dv_assign (T rfl rfl)) ?_
        refine lw_nil ?_
        exact ih10 (ys.length - ((i + 1))) _ _ (by rw [hd21]; omega) ⟨(i + 1), (L ++ [((cy + (ys.getD i 0)) + (xs.getD i 0)) % 4294967296]), Ad36, c37, (((cy + (ys.getD i 0)) + (xs.getD i 0)) / 4294967296), rfl, f13, f14, f15, rfl, rfl, (vi (by omega)), E41, hO39, (by omega), (by simp [hl]), (okW.snoc hok (by omega) (by omega)), (by omega), (add_app hl hv (by omega))⟩
      · -- TLTF
        refine rk_cf (T rfl (congrArg Value.bool (decide_eq_false hb26))) ?_
        refine rk_skip ?_
        refine rk_seq ?_
        refine rk_reg ?_
        refine lw_v (.slice Ad (L.length) cp) (dv_move (T rfl f16)) ?_
        refine lw_v (.int .u64 (cy + (ys.getD i 0))) (dv_move (T rfl rfl)) ?_
        refine lw_v (.int .u32 ((cy + (ys.getD i 0)) % 4294967296)) (dv_conv (a := cy + (ys.getD i 0)) (z := (cy + (ys.getD i 0)) % 4294967296) ui22 ui115 (T rfl rfl) (wr_u32 _)) ?_
        refine lw_e (oe_buildSlice (pv := [(0, .int .u32 ((cy + (ys.getD i 0)) % 4294967296))]) (init := [.int .u32 0]) (l := [.int .u32 ((cy + (ys.getD i 0)) % 4294967296)]) us60 sz115 rfl rfl zc115 (by kernel_rfl) ⟨rfl, (T rfl rfl), trivial⟩ rfl ?_)
        intro b42 w43 n44
        have N45 : w.heap.size ≤ b42 := n44.eq ▸ E19.size
        have E46 := below_ext E19 E19.size n44.ext
        have h47 := (h20.ext n44.ext)
        refine lw_e (oe_appendW (base := b2) (L := L) (M := [(cy + (ys.getD i 0)) % 4294967296]) (m := 1) us60 in115 (T rfl rfl) (T rfl rfl) h47 (Wd.ownW (xs := [(cy + (ys.getD i 0)) % 4294967296]) n44.blk) rfl (by first | omega | (simp; done) | (simp; omega)) (by first | omega | (simp; done) | (simp; omega)) ?_)
        intro Ad48 c49 w50 hO51 x52
        have E53 := below_bl E46 N6 x52
        refine lw_v (.slice Ad48 ((L ++ [(cy + (ys.getD i 0)) % 4294967296]).length) c49) (dv_assign (T rfl rfl)) ?_
        refine lw_nil ?_
        refine rk_reg ?_
        refine lw_v (.int .u64 (cy + (ys.getD i 0))) (dv_move (T rfl rfl)) ?_
        refine lw_v (.int .u64 ((cy + (ys.getD i 0)) / 4294967296)) (dv_shr (a := cy + (ys.getD i 0)) (b := 32) (z := (cy + (ys.getD i 0)) / 4294967296) (T rfl rfl) C (by decide) (shr_c (n := 32) (by omega) (by decide))) ?_
        refine lw_v (.int .u64 ((cy + (ys.getD i 0)) / 4294967296)) (dv_assign (T rfl rfl)) ?_
        refine lw_nil ?_
        refine rk_inBlock ?_
        refine rk_reg ?_
        refine lw_v (.int .i64 ((i : Int))) (dv_move (T rfl f18)) ?_
        refine lw_v (.int .i64 (((i : Int)) + 1)) (dv_add (a := (i : Int)) (b := 1) (z := ((i : Int)) + 1) (T rfl rfl) C (wr_i64 (by omega) (by omega))) ?_
        refine lw_v (.int .i64 (((i : Int)) + 1)) (dv_assign (T rfl rfl)) ?_
        refine lw_nil ?_
        exact ih10 (ys.length - ((i + 1))) _ _ (by rw [hd21]; omega) ⟨(i + 1), (L ++ [(cy + (ys.getD i 0)) % 4294967296]), Ad48, c49, ((cy + (ys.getD i 0)) / 4294967296), rfl, f13, f14, f15, rfl, rfl, (vi (by omega)), E53, hO51, (by omega), (by simp [hl]), (okW.snoc hok (by omega) (by omega)), (by omega), (add_app hl hv (by omega))⟩
    · -- TLF
      refine rk_cf (T rfl (congrArg Value.bool (decide_eq_false hb22))) ?_
      refine rk_exit rfl ?_
      refine rk_seq ?_
      refine rk_seq ?_
      refine rk_reg ?_
      refine lw_v (.int .u64 cy) (dv_move (T rfl f17)) ?_
      refine lw_v (.bool (decide (0 < cy))) (dv_gtr (a := cy) (b := 0) (T rfl rfl) C) ?_
      refine lw_nil ?_
      by_cases hb54 : 0 < cy
      · -- TLFT
        refine rk_ct (T rfl (congrArg Value.bool (decide_eq_true hb54))) ?_
        refine rk_reg ?_
        refine lw_v (.slice Ad (L.length) cp) (dv_move (T rfl f16)) ?_
        refine lw_v (.int .u64 cy) (dv_move (T rfl f17)) ?_
        refine lw_v (.int .u32 ((cy) % 4294967296)) (dv_conv (a := cy) (z := (cy) % 4294967296) ui22 ui115 (T rfl rfl) (wr_u32 _)) ?_
        refine lw_e (oe_buildSlice (pv := [(0, .int .u32 ((cy) % 4294967296))]) (init := [.int .u32 0]) (l := [.int .u32 ((cy) % 4294967296)]) us60 sz115 rfl rfl zc115 (by kernel_rfl) ⟨rfl, (T rfl rfl), trivial⟩ rfl ?_)
        intro b55 w56 n57
        have N58 : w.heap.size ≤ b55 := n57.eq ▸ E19.size
        have E59 := below_ext E19 E19.size n57.ext
        have h60 := (h20.ext n57.ext)
        refine lw_e (oe_appendW (base := b2) (L := L) (M := [(cy) % 4294967296]) (m := 1) us60 in115 (T rfl rfl) (T rfl rfl) h60 (Wd.ownW (xs := [(cy) % 4294967296]) n57.blk) rfl (by first | omega | (simp; done) | (simp; omega)) (by first | omega | (simp; done) | (simp; omega)) ?_)
        intro Ad61 c62 w63 hO64 x65
        have E66 := below_bl E59 N6 x65
        refine lw_v (.slice Ad61 ((L ++ [(cy) % 4294967296]).length) c62) (dv_assign (T rfl rfl)) ?_
        refine lw_nil ?_
        refine rk_seq ?_
        refine rk_reg ?_
        refine lw_v (.slice Ad61 ((L ++ [(cy) % 4294967296]).length) c62) (dv_move (T rfl rfl)) ?_
        refine lw_v (.slice Ad61 ((L ++ [(cy) % 4294967296]).length) c62) (dv_assign (T rfl rfl)) ?_
        refine lw_nil ?_
        refine rk_ret Try.func117 (v := .slice Ad61 ((L ++ [(cy) % 4294967296]).length) c62) (res1 Try.results117 (rv_tmp rfl rfl)) ⟨_, rfl, ?_⟩
        exact ⟨_, _, _, rfl, E66, ⟨(L ++ [(cy) % 4294967296]), rfl, hO64.cap, hO64.wd, okW.snoc hok (by omega) (by omega), (by rw [show cy % 4294967296 = cy by omega]; first | exact (add_app_fin hl (by omega) (by omega) hv).1.symm | exact (Int.add_comm _ _).trans (add_app_fin hl (by omega) (by omega) hv).1.symm)⟩, by first | omega | (simp; omega)⟩
      · -- TLFF
        refine rk_cf (T rfl (congrArg Value.bool (decide_eq_false hb54))) ?_
        refine rk_skip ?_
        refine rk_seq ?_
        refine rk_reg ?_
        refine lw_v (.slice Ad (L.length) cp) (dv_move (T rfl f16)) ?_
        refine lw_v (.slice Ad (L.length) cp) (dv_assign (T rfl rfl)) ?_
        refine lw_nil ?_
        refine rk_ret Try.func117 (v := .slice Ad (L.length) cp) (res1 Try.results117 (rv_tmp rfl rfl)) ⟨_, rfl, ?_⟩
        exact ⟨_, _, _, rfl, E19, ⟨L, rfl, h20.cap, h20.wd, hok, (by first | exact ((add_app_fin hl (by omega) (by omega) hv).2 (by omega)).symm | exact (Int.add_comm _ _).trans ((add_app_fin hl (by omega) (by omega) hv).2 (by omega)).symm)⟩, by first | omega | (simp; omega)⟩
  · -- F
    refine rk_cf (T rfl (congrArg Value.bool (decide_eq_false hb1))) ?_
    refine rk_skip ?_
    refine rk_seq ?_
    refine rk_reg ?_
    refine lw_v (.slice A (xs.length) c) (dv_move (T rfl rfl)) ?_
    refine lw_v (.int .i64 ((xs.length : Int))) (dv_len (ad := A) (l := xs.length) (c := c) us60 (T rfl rfl)) ?_
    refine lw_v (.int .i64 (((xs.length : Int)) + 1)) (dv_add (a := (xs.length : Int)) (b := 1) (z := ((xs.length : Int)) + 1) (T rfl rfl) C (wr_i64 (by omega) (by omega))) ?_
    refine lw_e (oe_makeCapW (c := ((xs.length) + 1)) (j := ((xs.length : Int)) + 1) us60 in115 C (T rfl rfl) (by omega) (by first | omega | (simp; done) | (simp; omega)) (by first | omega | (simp; done) | (simp; omega)) ?_)
    intro b67 w68 n69 hO70
    have N71 : w.heap.size ≤ b67 := n69.eq ▸ E0.size
    have E72 := below_ext E0 E0.size n69.ext
    refine lw_v (.slice (some ⟨b67, 0, none⟩) (([] : List Int).length) (((xs.length) + 1))) (dv_assign (T rfl rfl)) ?_
    refine lw_nil ?_
    refine rk_seq ?_
    refine rk_reg ?_
    refine lw_v (.int .u64 0) (dv_assign C) ?_
    refine lw_nil ?_
    refine rk_seq ?_
    refine rk_seq ?_
    refine rk_reg ?_
    refine lw_v (.int .i64 0) (dv_assign C) ?_
    refine lw_nil ?_
    refine rk_block ?_
    refine rk_loop (fun dm_ fr wl => ∃ (i : Nat) (L : List Int) (Ad : Option Addr) (cp : Nat) (cy : Int), dm_ = xs.length - i ∧ fr 0 = .slice A (xs.length) c ∧ fr 1 = .slice D (ys.length) d ∧ fr 4 = .slice none 0 0 ∧ fr 5 = .slice Ad (L.length) cp ∧ fr 6 = .int .u64 cy ∧ fr 7 = .int .i64 ((i : Int)) ∧ Below w.heap.size w wl ∧ Ow wl b67 115 .u32 Ad cp L ∧ (i ≤ xs.length) ∧ (L.length = i) ∧ (okW (2 ^ 32) L) ∧ (0 ≤ cy ∧ cy ≤ 1) ∧ (valB (2 ^ 32) L + cy * (2 ^ 32) ^ i = valB (2 ^ 32) (xs.take i) + valB (2 ^ 32) (ys.take i))) (xs.length - 0) ⟨0, ([] : List Int), (some ⟨b67, 0, none⟩), (((xs.length) + 1)), 0, rfl, rfl, rfl, rfl, rfl, rfl, (vi (by omega)), E72, hO70, (Nat.zero_le _), rfl, okW.nil, (by decide), (by simp [valB])⟩ ?_
    intro d77 fr76 w73 hI74 ih75
    obtain ⟨i, L, Ad, cp, cy, hd86, f78, f79, f80, f81, f82, f83, E84, h85, hi, hl, hok, hcy, hv⟩ := hI74
    have bxs := okW.getD ox (by decide) i
    have gxs := getD_ge xs i
    have bys := okW.getD oy (by decide) i
    have gys := getD_ge ys i
    refine rk_seq ?_
    refine rk_seq ?_
    refine rk_reg ?_
    refine lw_v (.int .i64 ((i : Int))) (dv_move (T rfl f83)) ?_
    refine lw_v (.slice A (xs.length) c) (dv_move (T rfl f78)) ?_
    refine lw_v (.int .i64 ((xs.length : Int))) (dv_len (ad := A) (l := xs.length) (c := c) us60 (T rfl rfl)) ?_
    refine lw_v (.bool (decide (((i : Int)) < ((xs.length : Int))))) (dv_lss (a := (i : Int)) (b := (xs.length : Int)) (T rfl rfl) (T rfl rfl)) ?_
    refine lw_nil ?_
    by_cases hb87 : ((i : Int)) < ((xs.length : Int))
    · -- FLT
      refine rk_ct (T rfl (congrArg Value.bool (decide_eq_true hb87))) ?_
      refine rk_skip ?_
      refine rk_seq ?_
      refine rk_block ?_
      refine rk_seq ?_
      refine rk_reg ?_
      refine lw_v (.int .u64 cy) (dv_move (T rfl f82)) ?_
      refine lw_v (.slice A (xs.length) c) (dv_move (T rfl f78)) ?_
      refine lw_v (.int .i64 ((i : Int))) (dv_move (T rfl f83)) ?_
      have h88 := (hx.ext E84)
      obtain ⟨g89, o90, rfl⟩ := Wd.at h88 (by first | omega | (simp; done) | (simp; omega))
      refine lw_v (.pointer (some ⟨g89, o90 + i, none⟩)) (dv_indexW (g := g89) (o := o90) (l := xs.length) (c := c) (i := i) (j := (i : Int)) us60 sz115 (T rfl rfl) (T rfl rfl) (by omega) (by first | omega | (simp; done) | (simp; omega))) ?_
      refine lw_v (.int .u32 (xs.getD i 0)) (dv_load agt115 (T rfl rfl) (Wd.cell h88 (by first | omega | (simp; done) | (simp; omega)))) ?_
      refine lw_v (.int .u64 (xs.getD i 0)) (dv_conv (a := xs.getD i 0) (z := xs.getD i 0) ui115 ui22 (T rfl rfl) (wn_u64 (by omega) (by omega))) ?_
      refine lw_v (.int .u64 (cy + (xs.getD i 0))) (dv_add (a := cy) (b := xs.getD i 0) (z := cy + (xs.getD i 0)) (T rfl rfl) (T rfl rfl) (wn_u64 (by omega) (by omega))) ?_
      refine lw_v (.int .u64 (cy + (xs.getD i 0))) (dv_assign (T rfl rfl)) ?_
      refine lw_nil ?_
      refine rk_seq ?_
      refine rk_seq ?_
      refine rk_reg ?_
      refine lw_v (.int .i64 ((i : Int))) (dv_move (T rfl f83)) ?_
      refine lw_v (.slice D (ys.length) d) (dv_move (T rfl f79)) ?_
      refine lw_v (.int .i64 ((ys.length : Int))) (dv_len (ad := D) (l := ys.length) (c := d) us60 (T rfl rfl)) ?_
      refine lw_v (.bool (decide (((i : Int)) < ((ys.length : Int))))) (dv_lss (a := (i : Int)) (b := (ys.length : Int)) (T rfl rfl) (T rfl rfl)) ?_
      refine lw_nil ?_
      by_cases hb91 : ((i : Int)) < ((ys.length : Int))
      · -- FLTT
        refine rk_ct (T rfl (congrArg Value.bool (decide_eq_true hb91))) ?_
        refine rk_reg ?_
        refine lw_v (.int .u64 (cy + (xs.getD i 0))) (dv_move (T rfl rfl)) ?_
        refine lw_v (.slice D (ys.length) d) (dv_move (T rfl f79)) ?_
        refine lw_v (.int .i64 ((i : Int))) (dv_move (T rfl f83)) ?_
        have h92 := (hy.ext E84)
        obtain ⟨g93, o94, rfl⟩ := Wd.at h92 (by first | omega | (simp; done) | (simp; omega))
        refine lw_v (.pointer (some ⟨g93, o94 + i, none⟩)) (dv_indexW (g := g93) (o := o94) (l := ys.length) (c := d) (i := i) (j := (i : Int)) us60 sz115 (T rfl rfl) (T rfl rfl) (by omega) (by first | omega | (simp; done) | (simp; omega))) ?_
        refine lw_v (.int .u32 (ys.getD i 0)) (dv_load agt115 (T rfl rfl) (Wd.cell h92 (by first | omega | (simp; done) | (simp; omega)))) ?_
        refine lw_v (.int .u64 (ys.getD i 0)) (dv_conv (a := ys.getD i 0) (z := ys.getD i 0) ui115 ui22 (T rfl rfl) (wn_u64 (by omega) (by omega))) ?_
        refine lw_v (.int .u64 ((cy + (xs.getD i 0)) + (ys.getD i 0))) (dv_add (a := cy + (xs.getD i 0)) (b := ys.getD i 0) (z := (cy + (xs.getD i 0)) + (ys.getD i 0)) (T rfl rfl) (T rfl rfl) (wn_u64 (by omega) (by omega))) ?_
        refine lw_v (.int .u64 ((cy + (xs.getD i 0)) + (ys.getD i 0))) (dv_assign (T rfl rfl)) ?_
        refine lw_nil ?_
        refine rk_seq ?_
        refine rk_reg ?_
        refine lw_v (.slice Ad (L.length) cp) (dv_move (T rfl f81)) ?_
        refine lw_v (.int .u64 ((cy + (xs.getD i 0)) + (ys.getD i 0))) (dv_move (T rfl rfl)) ?_
        refine lw_v (.int .u32 (((cy + (xs.getD i 0)) + (ys.getD i 0)) % 4294967296)) (dv_conv (a := (cy + (xs.getD i 0)) + (ys.getD i 0)) (z := ((cy + (xs.getD i 0)) + (ys.getD i 0)) % 4294967296) ui22 ui115 (T rfl rfl) (wr_u32 _)) ?_
        refine lw_e (oe_buildSlice (pv := [(0, .int .u32 (((cy + (xs.getD i 0)) + (ys.getD i 0)) % 4294967296))]) (init := [.int .u32 0]) (l := [.int .u32 (((cy + (xs.getD i 0)) + (ys.getD i 0)) % 4294967296)]) us60 sz115 rfl rfl zc115 (by kernel_rfl) ⟨rfl, (T rfl rfl), trivial⟩ rfl ?_)
        intro b95 w96 n97
        have N98 : w.heap.size ≤ b95 := n97.eq ▸ E84.size
        have E99 := below_ext E84 E84.size n97.ext
        have h100 := (h85.ext n97.ext)
        refine lw_e (oe_appendW (base := b67) (L := L) (M := [((cy + (xs.getD i 0)) + (ys.getD i 0)) % 4294967296]) (m := 1) us60 in115 (T rfl rfl) (T rfl rfl) h100 (Wd.ownW (xs := [((cy + (xs.getD i 0)) + (ys.getD i 0)) % 4294967296]) n97.blk) rfl (by first | omega | (simp; done) | (simp; omega)) (by first | omega | (simp; done) | (simp; omega)) ?_)
        intro Ad101 c102 w103 hO104 x105
        have E106 := below_bl E99 N71 x105
        refine lw_v (.slice Ad101 ((L ++ [((cy + (xs.getD i 0)) + (ys.getD i 0)) % 4294967296]).length) c102) (dv_assign (T rfl rfl)) ?_
        refine lw_nil ?_
        refine rk_reg ?_
        refine lw_v (.int .u64 ((cy + (xs.getD i 0)) + (ys.getD i 0))) (dv_move (T rfl rfl)) ?_
        refine lw_v (.int .u64 (((cy + (xs.getD i 0)) + (ys.getD i 0)) / 4294967296)) (dv_shr (a := (cy + (xs.getD i 0)) + (ys.getD i 0)) (b := 32) (z := ((cy + (xs.getD i 0)) + (ys.getD i 0)) / 4294967296) (T rfl rfl) C (by decide) (shr_c (n := 32) (by omega) (by decide))) ?_
        refine lw_v (.int .u64 (((cy + (xs.getD i 0)) + (ys.getD i 0)) / 4294967296)) (dv_assign (T rfl rfl)) ?_
        refine lw_nil ?_
        refine rk_inBlock ?_
        refine rk_reg ?_
        refine lw_v (.int .i64 ((i : Int))) (dv_move (T rfl f83)) ?_
        refine lw_v (.int .i64 (((i : Int)) + 1)) (dv_add (a := (i : Int)) (b := 1) (z := ((i : Int)) + 1) (T rfl rfl) C (wr_i64 (by omega) (by omega))) ?_
        refine lw_v (.int .i64 (((i : Int)) + 1)) (dv_assign (T rfl rfl)) ?_
        refine lw_nil ?_
        exact ih75 (xs.length - ((i + 1))) _ _ (by rw [hd86]; omega) ⟨(i + 1), (L ++ [((cy + (xs.getD i 0)) + (ys.getD i 0)) % 4294967296]), Ad101, c102, (((cy + (xs.getD i 0)) + (ys.getD i 0)) / 4294967296), rfl, f78, f79, f80, rfl, rfl, (vi (by omega)), E106, hO104, (by omega), (by simp [hl]), (okW.snoc hok (by omega) (by omega)), (by omega), (add_app hl hv (by omega))⟩
      · -- FLTF
        refine rk_cf (T rfl (congrArg Value.bool (decide_eq_false hb91))) ?_
        refine rk_skip ?_
        refine rk_seq ?_
        refine rk_reg ?_
        refine lw_v (.slice Ad (L.length) cp) (dv_move (T rfl f81)) ?_
        refine lw_v (.int .u64 (cy + (xs.getD i 0))) (dv_move (T rfl rfl)) ?_
        refine lw_v (.int .u32 ((cy + (xs.getD i 0)) % 4294967296)) (dv_conv (a := cy + (xs.getD i 0)) (z := (cy + (xs.getD i 0)) % 4294967296) ui22 ui115 (T rfl rfl) (wr_u32 _)) ?_
        refine lw_e (oe_buildSlice (pv := [(0, .int .u32 ((cy + (xs.getD i 0)) % 4294967296))]) (init := [.int .u32 0]) (l := [.int .u32 ((cy + (xs.getD i 0)) % 4294967296)]) us60 sz115 rfl rfl zc115 (by kernel_rfl) ⟨rfl, (T rfl rfl), trivial⟩ rfl ?_)
        intro b107 w108 n109
        have N110 : w.heap.size ≤ b107 := n109.eq ▸ E84.size
        have E111 := below_ext E84 E84.size n109.ext
        have h112 := (h85.ext n109.ext)
        refine lw_e (oe_appendW (base := b67) (L := L) (M := [(cy + (xs.getD i 0)) % 4294967296]) (m := 1) us60 in115 (T rfl rfl) (T rfl rfl) h112 (Wd.ownW (xs := [(cy + (xs.getD i 0)) % 4294967296]) n109.blk) rfl (by first | omega | (simp; done) | (simp; omega)) (by first | omega | (simp; done) | (simp; omega)) ?_)
        intro Ad113 c114 w115 hO116 x117
        have E118 := below_bl E111 N71 x117
        refine lw_v (.slice Ad113 ((L ++ [(cy + (xs.getD i 0)) % 4294967296]).length) c114) (dv_assign (T rfl rfl)) ?_
        refine lw_nil ?_
        refine rk_reg ?_
        refine lw_v (.int .u64 (cy + (xs.getD i 0))) (dv_move (T rfl rfl)) ?_
        refine lw_v (.int .u64 ((cy + (xs.getD i 0)) / 4294967296)) (dv_shr (a := cy + (xs.getD i 0)) (b := 32) (z := (cy + (xs.getD i 0)) / 4294967296) (T rfl rfl) C (by decide) (shr_c (n := 32) (by omega) (by decide))) ?_
        refine lw_v (.int .u64 ((cy + (xs.getD i 0)) / 4294967296)) (dv_assign (T rfl rfl)) ?_
        refine lw_nil ?_
        refine rk_inBlock ?_
        refine rk_reg ?_
        refine lw_v (.int .i64 ((i : Int))) (dv_move (T rfl f83)) ?_
        refine lw_v (.int .i64 (((i : Int)) + 1)) (dv_add (a := (i : Int)) (b := 1) (z := ((i : Int)) + 1) (T rfl rfl) C (wr_i64 (by omega) (by omega))) ?_
        refine lw_v (.int .i64 (((i : Int)) + 1)) (dv_assign (T rfl rfl)) ?_
        refine lw_nil ?_
        exact ih75 (xs.length - ((i + 1))) _ _ (by rw [hd86]; omega) ⟨(i + 1), (L ++ [(cy + (xs.getD i 0)) % 4294967296]), Ad113, c114, ((cy + (xs.getD i 0)) / 4294967296), rfl, f78, f79, f80, rfl, rfl, (vi (by omega)), E118, hO116, (by omega), (by simp [hl]), (okW.snoc hok (by omega) (by omega)), (by omega), (add_app hl hv (by omega))⟩
    · -- FLF
      refine rk_cf (T rfl (congrArg Value.bool (decide_eq_false hb87))) ?_
      refine rk_exit rfl ?_
      refine rk_seq ?_
      refine rk_seq ?_
      refine rk_reg ?_
      refine lw_v (.int .u64 cy) (dv_move (T rfl f82)) ?_
      refine lw_v (.bool (decide (0 < cy))) (dv_gtr (a := cy) (b := 0) (T rfl rfl) C) ?_
      refine lw_nil ?_
      by_cases hb119 : 0 < cy
      · -- FLFT
        refine rk_ct (T rfl (congrArg Value.bool (decide_eq_true hb119))) ?_
        refine rk_reg ?_
        refine lw_v (.slice Ad (L.length) cp) (dv_move (T rfl f81)) ?_
        refine lw_v (.int .u64 cy) (dv_move (T rfl f82)) ?_
        refine lw_v (.int .u32 ((cy) % 4294967296)) (dv_conv (a := cy) (z := (cy) % 4294967296) ui22 ui115 (T rfl rfl) (wr_u32 _)) ?_
        refine lw_e (oe_buildSlice (pv := [(0, .int .u32 ((cy) % 4294967296))]) (init := [.int .u32 0]) (l := [.int .u32 ((cy) % 4294967296)]) us60 sz115 rfl rfl zc115 (by kernel_rfl) ⟨rfl, (T rfl rfl), trivial⟩ rfl ?_)
        intro b120 w121 n122
        have N123 : w.heap.size ≤ b120 := n122.eq ▸ E84.size
        have E124 := below_ext E84 E84.size n122.ext
        have h125 := (h85.ext n122.ext)
        refine lw_e (oe_appendW (base := b67) (L := L) (M := [(cy) % 4294967296]) (m := 1) us60 in115 (T rfl rfl) (T rfl rfl) h125 (Wd.ownW (xs := [(cy) % 4294967296]) n122.blk) rfl (by first | omega | (simp; done) | (simp; omega)) (by first | omega | (simp; done) | (simp; omega)) ?_)
        intro Ad126 c127 w128 hO129 x130
        have E131 := below_bl E124 N71 x130
        refine lw_v (.slice Ad126 ((L ++ [(cy) % 4294967296]).length) c127) (dv_assign (T rfl rfl)) ?_
        refine lw_nil ?_
        refine rk_seq ?_
        refine rk_reg ?_
        refine lw_v (.slice Ad126 ((L ++ [(cy) % 4294967296]).length) c127) (dv_move (T rfl rfl)) ?_
        refine lw_v (.slice Ad126 ((L ++ [(cy) % 4294967296]).length) c127) (dv_assign (T rfl rfl)) ?_
        refine lw_nil ?_
        refine rk_ret Try.func117 (v := .slice Ad126 ((L ++ [(cy) % 4294967296]).length) c127) (res1 Try.results117 (rv_tmp rfl rfl)) ⟨_, rfl, ?_⟩
        exact ⟨_, _, _, rfl, E131, ⟨(L ++ [(cy) % 4294967296]), rfl, hO129.cap, hO129.wd, okW.snoc hok (by omega) (by omega), (by rw [show cy % 4294967296 = cy by omega]; first | exact (add_app_fin hl (by omega) (by omega) hv).1.symm | exact (Int.add_comm _ _).trans (add_app_fin hl (by omega) (by omega) hv).1.symm)⟩, by first | omega | (simp; omega)⟩
      · -- FLFF
        refine rk_cf (T rfl (congrArg Value.bool (decide_eq_false hb119))) ?_
        refine rk_skip ?_
        refine rk_seq ?_
        refine rk_reg ?_
        refine lw_v (.slice Ad (L.length) cp) (dv_move (T rfl f81)) ?_
        refine lw_v (.slice Ad (L.length) cp) (dv_assign (T rfl rfl)) ?_
        refine lw_nil ?_
        refine rk_ret Try.func117 (v := .slice Ad (L.length) cp) (res1 Try.results117 (rv_tmp rfl rfl)) ⟨_, rfl, ?_⟩
        exact ⟨_, _, _, rfl, E84, ⟨L, rfl, h85.cap, h85.wd, hok, (by first | exact ((add_app_fin hl (by omega) (by omega) hv).2 (by omega)).symm | exact (Int.add_comm _ _).trans ((add_app_fin hl (by omega) (by omega) hv).2 (by omega)).symm)⟩, by first | omega | (simp; omega)⟩

theorem l1AddAbs_ws {w : World} {A D : Option Addr} {l c l' d : Nat} {x y : Int} (h : Ws 32 115 .u32 w A l c x) (h' : Ws 32 115 .u32 w D l' d y) (hl : l ≤ 500000) (hl' : l' ≤ 500000) : Ct Try.prog 117 [.slice A l c, .slice D l' d] w fun v w1 =>
    ∃ A' n c', v = .slice A' n c' ∧ Ext w w1 ∧ Ws 32 115 .u32 w1 A' n c' (x + y) ∧ n ≤ l + l' + 1 := by
  obtain ⟨xs, rfl, hc, hw, ho, hv⟩ := h
  obtain ⟨ys, rfl, hc', hw', ho', hv'⟩ := h'
  subst hv; subst hv'
  exact l1AddAbs_ok hw hw' hc hc' ho ho' hl hl'

set_option maxHeartbeats 1000000 in
theorem l1Neg_ok {w : World} {na : Bool} {Aa : Option Addr} {la ca : Nat} {x : Int} {sx : Nat} (ha : Num 32 115 .u32 w na Aa la ca x sx) : Ct Try.prog 87 [.agg #[.bool na, .slice Aa la ca]] w fun v w1 => ∃ nr A' n c', v = .agg #[.bool nr, .slice A' n c'] ∧ Ext w w1 ∧ Num 32 115 .u32 w1 nr A' n c' (-x) (sx) := by
  refine ct_run (n := 14) Try.func87 rfl Try.ntmps87 rfl ?_
  have E0 : Below w.heap.size w w := Below.refl _ _
  refine rk_seq ?_
  refine rk_reg ?_
  refine lw_e (oe_box (v := .agg #[.bool na, .slice Aa la ca]) (cs := #[.bool na, .slice Aa la ca]) (T rfl rfl) rfl ?_)
  intro b1 w2 n3
  have N4 : w.heap.size ≤ b1 := n3.eq ▸ E0.size
  have E5 := below_ext E0 E0.size n3.ext
  refine lw_e (oe_alloc ze62 ?_)
  intro b6 w7 n8
  have N9 : w.heap.size ≤ b6 := n8.eq ▸ E5.size
  have : b1 < b6 := n8.eq ▸ lt_of_blk n3.blk
  have E10 := below_ext E5 E5.size n8.ext
  refine lw_nil ?_
  refine rk_seq ?_
  refine rk_seq ?_
  refine rk_reg ?_
  refine lw_v (.pointer (some ⟨b1, 1, none⟩)) (dv_fieldAddr (a := ⟨b1, 0, none⟩) (a' := ⟨b1, 1, none⟩) fo62_1 (T rfl rfl) rfl) ?_
  have H11 := (n8.ext.blk n3.blk)
  refine lw_v (.slice Aa la ca) (dv_load1 (b := b1) (o := 1) agt60 (T rfl rfl) H11 rfl) ?_
  refine lw_v (.int .i64 ((la : Int))) (dv_len (ad := Aa) (l := la) (c := ca) us60 (T rfl rfl)) ?_
  refine lw_v (.bool (decide (((la : Int)) = 0))) (dv_eql (a := (la : Int)) (b := 0) (T rfl rfl) C) ?_
  refine lw_nil ?_
  by_cases hb12 : ((la : Int)) = 0
  · -- T
    refine rk_ct (T rfl (congrArg Value.bool (decide_eq_true hb12))) ?_
    refine rk_seq ?_
    refine rk_reg ?_
    refine lw_v (.agg #[.bool na, .slice Aa la ca]) (dv_loads (l := [.bool na, .slice Aa la ca]) agt62 sz62 (T rfl rfl) H11 rfl) ?_
    refine lw_e (oe_store (v := .agg #[.bool na, .slice Aa la ca]) (vs := [.bool na, .slice Aa la ca]) (l := [.bool na, .slice Aa la ca]) (T rfl rfl) (T rfl rfl) sz62 rfl rfl rfl n8.blk rfl ?_)
    intro w13 s14 H15
    have E16 := below_st E10 N9 s14
    refine lw_nil ?_
    refine rk_ret Try.func87 (v := .agg #[.bool na, .slice Aa la ca]) (res1 Try.results87 (rv_cells (l := [.bool na, .slice Aa la ca]) agt62 sz62 rfl rfl H15 rfl)) ⟨_, rfl, ?_⟩
    have h17 := ha.ext E16
    exact ⟨_, _, _, _, rfl, E16, h17.to (by have := ha.pos_iff; omega) (Nat.le_refl _)⟩
  · -- F
    refine rk_cf (T rfl (congrArg Value.bool (decide_eq_false hb12))) ?_
    refine rk_skip ?_
    refine rk_seq ?_
    refine rk_reg ?_
    refine lw_v (.pointer (some ⟨b1, 0, none⟩)) (dv_fieldAddr (a := ⟨b1, 0, none⟩) (a' := ⟨b1, 0, none⟩) fo62_0 (T rfl rfl) rfl) ?_
    refine lw_v (.bool na) (dv_load1 (b := b1) (o := 0) agt4 (T rfl rfl) H11 rfl) ?_
    refine lw_v (.bool (!na)) (dv_not (T rfl rfl)) ?_
    refine lw_v (.pointer (some ⟨b1, 1, none⟩)) (dv_fieldAddr (a := ⟨b1, 0, none⟩) (a' := ⟨b1, 1, none⟩) fo62_1 (T rfl rfl) rfl) ?_
    refine lw_v (.slice Aa la ca) (dv_load1 (b := b1) (o := 1) agt60 (T rfl rfl) H11 rfl) ?_
    refine lw_v (.agg #[.bool (!na), .slice Aa la ca]) (dv_build (pv := [(0, .bool (!na)), (1, .slice Aa la ca)]) (l := [.bool (!na), .slice Aa la ca]) zc62 pl62 ⟨rfl, (T rfl rfl), ⟨rfl, (T rfl rfl), trivial⟩⟩ rfl) ?_
    refine lw_e (oe_store (v := .agg #[.bool (!na), .slice Aa la ca]) (vs := [.bool (!na), .slice Aa la ca]) (l := [.bool (!na), .slice Aa la ca]) (T rfl rfl) (T rfl rfl) sz62 rfl rfl rfl n8.blk rfl ?_)
    intro w18 s19 H20
    have E21 := below_st E10 N9 s19
    refine lw_nil ?_
    refine rk_ret Try.func87 (v := .agg #[.bool (!na), .slice Aa la ca]) (res1 Try.results87 (rv_cells (l := [.bool (!na), .slice Aa la ca]) agt62 sz62 rfl rfl H20 rfl)) ⟨_, rfl, ?_⟩
    have h22 := ha.ext E21
    exact ⟨_, _, _, _, rfl, E21, Wc.num h22.wc (fun _ => by have := ha.pos_iff; omega) (sg_not ha.neg_iff).symm ha.ltI⟩

set_option maxHeartbeats 1000000 in
theorem l1Add_ok {w : World} {na : Bool} {Aa : Option Addr} {la ca : Nat} {x : Int} {sx : Nat} (ha : Num 32 115 .u32 w na Aa la ca x sx) {nb : Bool} {Ab : Option Addr} {lb cb : Nat} {y : Int} {sy : Nat} (hb : Num 32 115 .u32 w nb Ab lb cb y sy) (hs : sx ≤ 400000) (hs2 : sy ≤ 400000) : Ct Try.prog 99 [.agg #[.bool na, .slice Aa la ca], .agg #[.bool nb, .slice Ab lb cb]] w fun v w1 => ∃ nr A' n c', v = .agg #[.bool nr, .slice A' n c'] ∧ Ext w w1 ∧ Num 32 115 .u32 w1 nr A' n c' (x + y) (max sx sy + 1) := by
  refine ct_run (n := 40) Try.func99 rfl Try.ntmps99 rfl ?_
  have E0 : Below w.heap.size w w := Below.refl _ _
  have lha := Num.len (by decide) ha
  have lhb := Num.len (by decide) hb
  refine rk_seq ?_
  refine rk_reg ?_
  refine lw_e (oe_box (v := .agg #[.bool na, .slice Aa la ca]) (cs := #[.bool na, .slice Aa la ca]) (T rfl rfl) rfl ?_)
  intro b1 w2 n3
  have N4 : w.heap.size ≤ b1 := n3.eq ▸ E0.size
  have E5 := below_ext E0 E0.size n3.ext
  refine lw_e (oe_box (v := .agg #[.bool nb, .slice Ab lb cb]) (cs := #[.bool nb, .slice Ab lb cb]) (T rfl rfl) rfl ?_)
  intro b6 w7 n8
  have N9 : w.heap.size ≤ b6 := n8.eq ▸ E5.size
  have : b1 < b6 := n8.eq ▸ lt_of_blk n3.blk
  have E10 := below_ext E5 E5.size n8.ext
  refine lw_e (oe_alloc ze62 ?_)
  intro b11 w12 n13
  have N14 : w.heap.size ≤ b11 := n13.eq ▸ E10.size
  have : b6 < b11 := n13.eq ▸ lt_of_blk n8.blk
  have E15 := below_ext E10 E10.size n13.ext
  refine lw_nil ?_
  refine rk_seq ?_
  refine rk_seq ?_
  refine rk_reg ?_
  refine lw_v (.pointer (some ⟨b1, 0, none⟩)) (dv_fieldAddr (a := ⟨b1, 0, none⟩) (a' := ⟨b1, 0, none⟩) fo62_0 (T rfl rfl) rfl) ?_
  have H16 := (n13.ext.blk (n8.ext.blk n3.blk))
  refine lw_v (.bool na) (dv_load1 (b := b1) (o := 0) agt4 (T rfl rfl) H16 rfl) ?_
  refine lw_v (.pointer (some ⟨b6, 0, none⟩)) (dv_fieldAddr (a := ⟨b6, 0, none⟩) (a' := ⟨b6, 0, none⟩) fo62_0 (T rfl rfl) rfl) ?_
  have H17 := (n13.ext.blk n8.blk)
  refine lw_v (.bool nb) (dv_load1 (b := b6) (o := 0) agt4 (T rfl rfl) H17 rfl) ?_
  refine lw_v (.bool (na == nb)) (dv_eqlb (a := na) (b := nb) ub4 (T rfl rfl) (T rfl rfl)) ?_
  refine lw_nil ?_
  rcases Bool.eq_false_or_eq_true (na == nb) with hb18 | hb18
  · -- T
    refine rk_ct (T rfl (congrArg Value.bool hb18)) ?_
    refine rk_seq ?_
    refine rk_any (fun w => w.heap[b1]? = some (.cells #[.bool na, .slice Aa la ca] 62) ∧ w.heap[b6]? = some (.cells #[.bool nb, .slice Ab lb cb] 62)) [8] mo ?_
    intro w19 d20
    have E21 := below_ext E15 E15.size d20.ext
    have H22 := (d20.ext.blk H16)
    have H23 := (d20.ext.blk H17)
    refine aw_pure 0 (.pointer (some ⟨b1, 0, none⟩)) rfl (by kernel_rfl) .none ⟨H22, H23⟩ (fun _ => dv_fieldAddr (a := ⟨b1, 0, none⟩) (a' := ⟨b1, 0, none⟩) fo62_0 (T rfl rfl) rfl) ?_
    refine aw_load 1 (.bool na) rfl (by kernel_rfl) .none ⟨H22, H23⟩ (fun _ s => dv_load1 (b := b1) (o := 0) agt4 (T rfl rfl) s.1 rfl) ?_
    refine aw_pure 2 (.pointer (some ⟨b1, 1, none⟩)) rfl (by kernel_rfl) .none ⟨H22, H23⟩ (fun _ => dv_fieldAddr (a := ⟨b1, 0, none⟩) (a' := ⟨b1, 1, none⟩) fo62_1 (T rfl rfl) rfl) ?_
    refine aw_load 3 (.slice Aa la ca) rfl (by kernel_rfl) .none ⟨H22, H23⟩ (fun _ s => dv_load1 (b := b1) (o := 1) agt60 (T rfl rfl) s.1 rfl) ?_
    refine aw_pure 4 (.pointer (some ⟨b6, 1, none⟩)) rfl (by kernel_rfl) .none ⟨H22, H23⟩ (fun _ => dv_fieldAddr (a := ⟨b6, 0, none⟩) (a' := ⟨b6, 1, none⟩) fo62_1 (T rfl rfl) rfl) ?_
    refine aw_load 5 (.slice Ab lb cb) rfl (by kernel_rfl) .none ⟨H22, H23⟩ (fun _ s => dv_load1 (b := b6) (o := 1) agt60 (T rfl rfl) s.2 rfl) ?_
    have h24 := ((((ha.ext n3.ext).ext n8.ext).ext n13.ext).ext d20.ext)
    have h25 := ((((hb.ext n3.ext).ext n8.ext).ext n13.ext).ext d20.ext)
    refine aw_one 6 rfl (by kernel_rfl) .none (oe_callf (vs := [.slice Aa la ca, .slice Ab lb cb]) co117 (ar2 (T rfl rfl) (T rfl rfl)) (l1AddAbs_ws h24.wc.ws h25.wc.ws (by omega) (by omega)) ?_)
    rintro _ w30 ⟨A26, n27, c28, rfl, e31, h29, hnh29⟩
    have E32 := below_ext E21 E21.size e31
    have H33 := (e31.blk H22)
    have H34 := (e31.blk H23)
    refine ⟨.inr ⟨H33, H34⟩, ?_⟩
    refine aw_one 7 rfl (by kernel_rfl) .none (oe_callf (vs := [.bool na, .slice A26 n27 c28]) co89 (ar2 (T rfl rfl) (T rfl rfl)) (l1Trim_num (s := (max sx sy + 1)) (neg := na) h29 (by omega) (sz_add h24.ltI h25.ltI)) ?_)
    rintro _ w40 ⟨nb35, A36, n37, c38, rfl, e41, hn39⟩
    have E42 := below_ext E32 E32.size e41
    have lhn39 := Num.len (by decide) hn39
    have H43 := (e41.blk H33)
    have H44 := (e41.blk H34)
    refine ⟨.inr ⟨H43, H44⟩, ?_⟩
    have H45 := (e41.blk (e31.blk (d20.ext.blk n13.blk)))
    refine aw_one 8 rfl (by kernel_rfl) .none (oe_store (v := .agg #[.bool nb35, .slice A36 n37 c38]) (vs := [.bool nb35, .slice A36 n37 c38]) (l := [.bool nb35, .slice A36 n37 c38]) (T rfl rfl) (T rfl rfl) sz62 rfl rfl rfl H45 rfl ?_)
    intro w46 s47 H48
    have E49 := below_st E42 N14 s47
    refine ⟨.inl rfl, ?_⟩
    refine aw_done (by kernel_rfl) ?_
    refine rk_ret Try.func99 (v := .agg #[.bool nb35, .slice A36 n37 c38]) (res1 Try.results99 (rv_cells (l := [.bool nb35, .slice A36 n37 c38]) agt62 sz62 rfl rfl H48 rfl)) ⟨_, rfl, ?_⟩
    have h50 := (hn39.st s47 H45 (by decide))
    exact ⟨_, _, _, _, rfl, E49, h50.to (sg_add ha.neg_iff hb.neg_iff (by assumption)) (Nat.le_refl _)⟩
  · -- F
    refine rk_cf (T rfl (congrArg Value.bool hb18)) ?_
    refine rk_skip ?_
    refine rk_seq ?_
    refine rk_seq ?_
    refine rk_reg ?_
    refine lw_v (.pointer (some ⟨b1, 1, none⟩)) (dv_fieldAddr (a := ⟨b1, 0, none⟩) (a' := ⟨b1, 1, none⟩) fo62_1 (T rfl rfl) rfl) ?_
    refine lw_v (.slice Aa la ca) (dv_load1 (b := b1) (o := 1) agt60 (T rfl rfl) H16 rfl) ?_
    refine lw_v (.pointer (some ⟨b6, 1, none⟩)) (dv_fieldAddr (a := ⟨b6, 0, none⟩) (a' := ⟨b6, 1, none⟩) fo62_1 (T rfl rfl) rfl) ?_
    refine lw_v (.slice Ab lb cb) (dv_load1 (b := b6) (o := 1) agt60 (T rfl rfl) H17 rfl) ?_
    have h51 := (((ha.ext n3.ext).ext n8.ext).ext n13.ext)
    have h52 := (((hb.ext n3.ext).ext n8.ext).ext n13.ext)
    refine lw_e (oe_callf (vs := [.slice Aa la ca, .slice Ab lb cb]) co116 (ar2 (T rfl rfl) (T rfl rfl)) (l1CmpAbs_wc h51.wc h52.wc (by omega) (by omega)) ?_)
    rintro _ w55 ⟨r53, rfl, e56, hr54⟩
    have E57 := below_ext E15 E15.size e56
    have qhr54 := cmpR.ge hr54
    have phr54 := cmpR.eq hr54
    have ohr54 := cmpR.gt hr54
    refine lw_v (.bool (decide (0 ≤ r53))) (dv_geq (a := r53) (b := 0) (T rfl rfl) C) ?_
    refine lw_nil ?_
    by_cases hb58 : 0 ≤ r53
    · -- FT
      refine rk_ct (T rfl (congrArg Value.bool (decide_eq_true hb58))) ?_
      refine rk_seq ?_
      refine rk_any (fun w => w.heap[b1]? = some (.cells #[.bool na, .slice Aa la ca] 62) ∧ w.heap[b6]? = some (.cells #[.bool nb, .slice Ab lb cb] 62)) [8] mo ?_
      intro w59 d60
      have E61 := below_ext E57 E57.size d60.ext
      have H62 := (d60.ext.blk (e56.blk H16))
      have H63 := (d60.ext.blk (e56.blk H17))
      refine aw_pure 0 (.pointer (some ⟨b1, 0, none⟩)) rfl (by kernel_rfl) .none ⟨H62, H63⟩ (fun _ => dv_fieldAddr (a := ⟨b1, 0, none⟩) (a' := ⟨b1, 0, none⟩) fo62_0 (T rfl rfl) rfl) ?_
      refine aw_load 1 (.bool na) rfl (by kernel_rfl) .none ⟨H62, H63⟩ (fun _ s => dv_load1 (b := b1) (o := 0) agt4 (T rfl rfl) s.1 rfl) ?_
      refine aw_pure 2 (.pointer (some ⟨b1, 1, none⟩)) rfl (by kernel_rfl) .none ⟨H62, H63⟩ (fun _ => dv_fieldAddr (a := ⟨b1, 0, none⟩) (a' := ⟨b1, 1, none⟩) fo62_1 (T rfl rfl) rfl) ?_
      refine aw_load 3 (.slice Aa la ca) rfl (by kernel_rfl) .none ⟨H62, H63⟩ (fun _ s => dv_load1 (b := b1) (o := 1) agt60 (T rfl rfl) s.1 rfl) ?_
      refine aw_pure 4 (.pointer (some ⟨b6, 1, none⟩)) rfl (by kernel_rfl) .none ⟨H62, H63⟩ (fun _ => dv_fieldAddr (a := ⟨b6, 0, none⟩) (a' := ⟨b6, 1, none⟩) fo62_1 (T rfl rfl) rfl) ?_
      refine aw_load 5 (.slice Ab lb cb) rfl (by kernel_rfl) .none ⟨H62, H63⟩ (fun _ s => dv_load1 (b := b6) (o := 1) agt60 (T rfl rfl) s.2 rfl) ?_
      have h64 := ((h51.ext e56).ext d60.ext)
      have h65 := ((h52.ext e56).ext d60.ext)
      refine aw_one 6 rfl (by kernel_rfl) .none (oe_callf (vs := [.slice Aa la ca, .slice Ab lb cb]) co90 (ar2 (T rfl rfl) (T rfl rfl)) (l1SubAbs_ws h64.wc.ws h65.wc.ws (by omega) (by omega) (by exact len_le32 h64.wc h65.wc (by omega)) (by omega)) ?_)
      rintro _ w70 ⟨A66, n67, c68, rfl, e71, h69, hnh69⟩
      have E72 := below_ext E61 E61.size e71
      have H73 := (e71.blk H62)
      have H74 := (e71.blk H63)
      refine ⟨.inr ⟨H73, H74⟩, ?_⟩
      refine aw_one 7 rfl (by kernel_rfl) .none (oe_callf (vs := [.bool na, .slice A66 n67 c68]) co89 (ar2 (T rfl rfl) (T rfl rfl)) (l1Trim_num (s := sx) (neg := na) h69 (by omega) (sz_sub h64.ltI (Wc.nonneg h65.wc))) ?_)
      rintro _ w80 ⟨nb75, A76, n77, c78, rfl, e81, hn79⟩
      have E82 := below_ext E72 E72.size e81
      have lhn79 := Num.len (by decide) hn79
      have H83 := (e81.blk H73)
      have H84 := (e81.blk H74)
      refine ⟨.inr ⟨H83, H84⟩, ?_⟩
      have H85 := (e81.blk (e71.blk (d60.ext.blk (e56.blk n13.blk))))
      refine aw_one 8 rfl (by kernel_rfl) .none (oe_store (v := .agg #[.bool nb75, .slice A76 n77 c78]) (vs := [.bool nb75, .slice A76 n77 c78]) (l := [.bool nb75, .slice A76 n77 c78]) (T rfl rfl) (T rfl rfl) sz62 rfl rfl rfl H85 rfl ?_)
      intro w86 s87 H88
      have E89 := below_st E82 N14 s87
      refine ⟨.inl rfl, ?_⟩
      refine aw_done (by kernel_rfl) ?_
      refine rk_ret Try.func99 (v := .agg #[.bool nb75, .slice A76 n77 c78]) (res1 Try.results99 (rv_cells (l := [.bool nb75, .slice A76 n77 c78]) agt62 sz62 rfl rfl H88 rfl)) ⟨_, rfl, ?_⟩
      have h90 := (hn79.st s87 H85 (by decide))
      exact ⟨_, _, _, _, rfl, E89, h90.to (sg_sub ha.neg_iff hb.neg_iff (by assumption)) (by omega)⟩
    · -- FF
      refine rk_cf (T rfl (congrArg Value.bool (decide_eq_false hb58))) ?_
      refine rk_skip ?_
      refine rk_seq ?_
      refine rk_any (fun w => w.heap[b6]? = some (.cells #[.bool nb, .slice Ab lb cb] 62) ∧ w.heap[b1]? = some (.cells #[.bool na, .slice Aa la ca] 62)) [8] mo ?_
      intro w91 d92
      have E93 := below_ext E57 E57.size d92.ext
      have H94 := (d92.ext.blk (e56.blk H17))
      have H95 := (d92.ext.blk (e56.blk H16))
      refine aw_pure 0 (.pointer (some ⟨b6, 0, none⟩)) rfl (by kernel_rfl) .none ⟨H94, H95⟩ (fun _ => dv_fieldAddr (a := ⟨b6, 0, none⟩) (a' := ⟨b6, 0, none⟩) fo62_0 (T rfl rfl) rfl) ?_
      refine aw_load 1 (.bool nb) rfl (by kernel_rfl) .none ⟨H94, H95⟩ (fun _ s => dv_load1 (b := b6) (o := 0) agt4 (T rfl rfl) s.1 rfl) ?_
      refine aw_pure 2 (.pointer (some ⟨b6, 1, none⟩)) rfl (by kernel_rfl) .none ⟨H94, H95⟩ (fun _ => dv_fieldAddr (a := ⟨b6, 0, none⟩) (a' := ⟨b6, 1, none⟩) fo62_1 (T rfl rfl) rfl) ?_
      refine aw_load 3 (.slice Ab lb cb) rfl (by kernel_rfl) .none ⟨H94, H95⟩ (fun _ s => dv_load1 (b := b6) (o := 1) agt60 (T rfl rfl) s.1 rfl) ?_
      refine aw_pure 4 (.pointer (some ⟨b1, 1, none⟩)) rfl (by kernel_rfl) .none ⟨H94, H95⟩ (fun _ => dv_fieldAddr (a := ⟨b1, 0, none⟩) (a' := ⟨b1, 1, none⟩) fo62_1 (T rfl rfl) rfl) ?_
      refine aw_load 5 (.slice Aa la ca) rfl (by kernel_rfl) .none ⟨H94, H95⟩ (fun _ s => dv_load1 (b := b1) (o := 1) agt60 (T rfl rfl) s.2 rfl) ?_
      have h96 := ((h52.ext e56).ext d92.ext)
      have h97 := ((h51.ext e56).ext d92.ext)
      refine aw_one 6 rfl (by kernel_rfl) .none (oe_callf (vs := [.slice Ab lb cb, .slice Aa la ca]) co90 (ar2 (T rfl rfl) (T rfl rfl)) (l1SubAbs_ws h96.wc.ws h97.wc.ws (by omega) (by omega) (by exact len_le32 h96.wc h97.wc (by omega)) (by omega)) ?_)
      rintro _ w102 ⟨A98, n99, c100, rfl, e103, h101, hnh101⟩
      have E104 := below_ext E93 E93.size e103
      have H105 := (e103.blk H94)
      have H106 := (e103.blk H95)
      refine ⟨.inr ⟨H105, H106⟩, ?_⟩
      refine aw_one 7 rfl (by kernel_rfl) .none (oe_callf (vs := [.bool nb, .slice A98 n99 c100]) co89 (ar2 (T rfl rfl) (T rfl rfl)) (l1Trim_num (s := sy) (neg := nb) h101 (by omega) (sz_sub h96.ltI (Wc.nonneg h97.wc))) ?_)
      rintro _ w112 ⟨nb107, A108, n109, c110, rfl, e113, hn111⟩
      have E114 := below_ext E104 E104.size e113
      have lhn111 := Num.len (by decide) hn111
      have H115 := (e113.blk H105)
      have H116 := (e113.blk H106)
      refine ⟨.inr ⟨H115, H116⟩, ?_⟩
      have H117 := (e113.blk (e103.blk (d92.ext.blk (e56.blk n13.blk))))
      refine aw_one 8 rfl (by kernel_rfl) .none (oe_store (v := .agg #[.bool nb107, .slice A108 n109 c110]) (vs := [.bool nb107, .slice A108 n109 c110]) (l := [.bool nb107, .slice A108 n109 c110]) (T rfl rfl) (T rfl rfl) sz62 rfl rfl rfl H117 rfl ?_)
      intro w118 s119 H120
      have E121 := below_st E114 N14 s119
      refine ⟨.inl rfl, ?_⟩
      refine aw_done (by kernel_rfl) ?_
      refine rk_ret Try.func99 (v := .agg #[.bool nb107, .slice A108 n109 c110]) (res1 Try.results99 (rv_cells (l := [.bool nb107, .slice A108 n109 c110]) agt62 sz62 rfl rfl H120 rfl)) ⟨_, rfl, ?_⟩
      have h122 := (hn111.st s119 H117 (by decide))
      exact ⟨_, _, _, _, rfl, E121, h122.to (sg_sub' ha.neg_iff hb.neg_iff (by assumption)) (by omega)⟩

set_option maxHeartbeats 1000000 in
theorem l1Sub_ok {w : World} {na : Bool} {Aa : Option Addr} {la ca : Nat} {x : Int} {sx : Nat} (ha : Num 32 115 .u32 w na Aa la ca x sx) {nb : Bool} {Ab : Option Addr} {lb cb : Nat} {y : Int} {sy : Nat} (hb : Num 32 115 .u32 w nb Ab lb cb y sy) (hs : sx ≤ 400000) (hs2 : sy ≤ 400000) : Ct Try.prog 101 [.agg #[.bool na, .slice Aa la ca], .agg #[.bool nb, .slice Ab lb cb]] w fun v w1 => ∃ nr A' n c', v = .agg #[.bool nr, .slice A' n c'] ∧ Ext w w1 ∧ Num 32 115 .u32 w1 nr A' n c' (x - y) (max sx sy + 1) := by
  refine ct_run (n := 9) Try.func101 rfl Try.ntmps101 rfl ?_
  have E0 : Below w.heap.size w w := Below.refl _ _
  refine rk_seq ?_
  refine rk_reg ?_
  refine lw_e (oe_box (v := .agg #[.bool na, .slice Aa la ca]) (cs := #[.bool na, .slice Aa la ca]) (T rfl rfl) rfl ?_)
  intro b1 w2 n3
  have N4 : w.heap.size ≤ b1 := n3.eq ▸ E0.size
  have E5 := below_ext E0 E0.size n3.ext
  refine lw_e (oe_box (v := .agg #[.bool nb, .slice Ab lb cb]) (cs := #[.bool nb, .slice Ab lb cb]) (T rfl rfl) rfl ?_)
  intro b6 w7 n8
  have N9 : w.heap.size ≤ b6 := n8.eq ▸ E5.size
  have : b1 < b6 := n8.eq ▸ lt_of_blk n3.blk
  have E10 := below_ext E5 E5.size n8.ext
  refine lw_e (oe_alloc ze62 ?_)
  intro b11 w12 n13
  have N14 : w.heap.size ≤ b11 := n13.eq ▸ E10.size
  have : b6 < b11 := n13.eq ▸ lt_of_blk n8.blk
  have E15 := below_ext E10 E10.size n13.ext
  refine lw_nil ?_
  refine rk_seq ?_
  refine rk_any (fun w => w.heap[b1]? = some (.cells #[.bool na, .slice Aa la ca] 62) ∧ w.heap[b6]? = some (.cells #[.bool nb, .slice Ab lb cb] 62)) [4] mo ?_
  intro w16 d17
  have E18 := below_ext E15 E15.size d17.ext
  have H19 := (d17.ext.blk (n13.ext.blk (n8.ext.blk n3.blk)))
  have H20 := (d17.ext.blk (n13.ext.blk n8.blk))
  refine aw_load 0 (.agg #[.bool na, .slice Aa la ca]) rfl (by kernel_rfl) .none ⟨H19, H20⟩ (fun _ s => dv_loads (l := [.bool na, .slice Aa la ca]) agt62 sz62 (T rfl rfl) s.1 rfl) ?_
  refine aw_load 1 (.agg #[.bool nb, .slice Ab lb cb]) rfl (by kernel_rfl) .none ⟨H19, H20⟩ (fun _ s => dv_loads (l := [.bool nb, .slice Ab lb cb]) agt62 sz62 (T rfl rfl) s.2 rfl) ?_
  have h21 := ((((hb.ext n3.ext).ext n8.ext).ext n13.ext).ext d17.ext)
  refine aw_one 2 rfl (by kernel_rfl) .none (oe_callf (vs := [.agg #[.bool nb, .slice Ab lb cb]]) co87 (ar1 (T rfl rfl)) (l1Neg_ok h21 ) ?_)
  rintro _ w27 ⟨nr22, A23, n24, c25, rfl, e28, h26⟩
  have E29 := below_ext E18 E18.size e28
  have lh26 := Num.len (by decide) h26
  have H30 := (e28.blk H19)
  have H31 := (e28.blk H20)
  refine ⟨.inr ⟨H30, H31⟩, ?_⟩
  have h32 := (((((ha.ext n3.ext).ext n8.ext).ext n13.ext).ext d17.ext).ext e28)
  refine aw_one 3 rfl (by kernel_rfl) .none (oe_callf (vs := [.agg #[.bool na, .slice Aa la ca], .agg #[.bool nr22, .slice A23 n24 c25]]) co99 (ar2 (T rfl rfl) (T rfl rfl)) (l1Add_ok h32 h26 (by first | decide | omega) (by first | decide | omega)) ?_)
  rintro _ w38 ⟨nr33, A34, n35, c36, rfl, e39, h37⟩
  have E40 := below_ext E29 E29.size e39
  have lh37 := Num.len (by decide) h37
  have H41 := (e39.blk H30)
  have H42 := (e39.blk H31)
  refine ⟨.inr ⟨H41, H42⟩, ?_⟩
  have H43 := (e39.blk (e28.blk (d17.ext.blk n13.blk)))
  refine aw_one 4 rfl (by kernel_rfl) .none (oe_store (v := .agg #[.bool nr33, .slice A34 n35 c36]) (vs := [.bool nr33, .slice A34 n35 c36]) (l := [.bool nr33, .slice A34 n35 c36]) (T rfl rfl) (T rfl rfl) sz62 rfl rfl rfl H43 rfl ?_)
  intro w44 s45 H46
  have E47 := below_st E40 N14 s45
  refine ⟨.inl rfl, ?_⟩
  refine aw_done (by kernel_rfl) ?_
  refine rk_ret Try.func101 (v := .agg #[.bool nr33, .slice A34 n35 c36]) (res1 Try.results101 (rv_cells (l := [.bool nr33, .slice A34 n35 c36]) agt62 sz62 rfl rfl H46 rfl)) ⟨_, rfl, ?_⟩
  have h48 := (h37.st s45 H43 (by decide))
  exact ⟨_, _, _, _, rfl, E47, h48.to (by omega) (by omega)⟩

set_option maxHeartbeats 1000000 in
theorem l1Cmp_ok {w : World} {na : Bool} {Aa : Option Addr} {la ca : Nat} {x : Int} {sx : Nat} (ha : Num 32 115 .u32 w na Aa la ca x sx) {nb : Bool} {Ab : Option Addr} {lb cb : Nat} {y : Int} {sy : Nat} (hb : Num 32 115 .u32 w nb Ab lb cb y sy) (hs : sx ≤ 400000) (hs2 : sy ≤ 400000) : Ct Try.prog 59 [.agg #[.bool na, .slice Aa la ca], .agg #[.bool nb, .slice Ab lb cb]] w fun v w1 => v = .int .i64 (sgnI (x - y)) ∧ Ext w w1 := by
  refine ct_run (n := 9) Try.func59 rfl Try.ntmps59 rfl ?_
  have E0 : Below w.heap.size w w := Below.refl _ _
  refine rk_seq ?_
  refine rk_reg ?_
  refine lw_e (oe_box (v := .agg #[.bool na, .slice Aa la ca]) (cs := #[.bool na, .slice Aa la ca]) (T rfl rfl) rfl ?_)
  intro b1 w2 n3
  have N4 : w.heap.size ≤ b1 := n3.eq ▸ E0.size
  have E5 := below_ext E0 E0.size n3.ext
  refine lw_e (oe_box (v := .agg #[.bool nb, .slice Ab lb cb]) (cs := #[.bool nb, .slice Ab lb cb]) (T rfl rfl) rfl ?_)
  intro b6 w7 n8
  have N9 : w.heap.size ≤ b6 := n8.eq ▸ E5.size
  have : b1 < b6 := n8.eq ▸ lt_of_blk n3.blk
  have E10 := below_ext E5 E5.size n8.ext
  refine lw_v (.int .i64 0) (dv_assign C) ?_
  refine lw_nil ?_
  refine rk_seq ?_
  refine rk_reg ?_
  have H11 := (n8.ext.blk n3.blk)
  refine lw_v (.agg #[.bool na, .slice Aa la ca]) (dv_loads (l := [.bool na, .slice Aa la ca]) agt62 sz62 (T rfl rfl) H11 rfl) ?_
  refine lw_v (.agg #[.bool nb, .slice Ab lb cb]) (dv_loads (l := [.bool nb, .slice Ab lb cb]) agt62 sz62 (T rfl rfl) n8.blk rfl) ?_
  have h12 := ((ha.ext n3.ext).ext n8.ext)
  have h13 := ((hb.ext n3.ext).ext n8.ext)
  refine lw_e (oe_callf (vs := [.agg #[.bool na, .slice Aa la ca], .agg #[.bool nb, .slice Ab lb cb]]) co101 (ar2 (T rfl rfl) (T rfl rfl)) (l1Sub_ok h12 h13 (by first | decide | omega) (by first | decide | omega)) ?_)
  rintro _ w19 ⟨nr14, A15, n16, c17, rfl, e20, h18⟩
  have E21 := below_ext E10 E10.size e20
  have lh18 := Num.len (by decide) h18
  refine lw_e (oe_callf (vs := [.agg #[.bool nr14, .slice A15 n16 c17]]) co69 (ar1 (T rfl rfl)) (l1Sign_ok h18 ) ?_)
  rintro _ w22 ⟨rfl, e23⟩
  have E24 := below_ext E21 E21.size e23
  refine lw_v (.int .i64 (sgnI (x - y))) (dv_assign (T rfl rfl)) ?_
  refine lw_nil ?_
  refine rk_ret Try.func59 (v := .int .i64 (sgnI (x - y))) (res1 Try.results59 (rv_tmp rfl rfl)) ⟨_, rfl, ?_⟩
  exact ⟨rfl, E24⟩

set_option maxHeartbeats 1000000 in
theorem l1Bits_ok {w : World} {A : Option Addr} {c : Nat} {xs : List Int} (hx : Wd w 115 .u32 A xs) (hc : xs.length ≤ c) (ox : okW (2 ^ 32) xs) (cx : canon xs) (lx : xs.length ≤ 1000000) : Ct Try.prog 106 [.slice A (xs.length) c] w fun v w1 => v = .int .i64 (nbits (valB (2 ^ 32) xs).toNat : Int) ∧ Ext w w1 := by
  refine ct_run (n := 25) Try.func106 rfl Try.ntmps106 rfl ?_
  have E0 : Below w.heap.size w w := Below.refl _ _
  have bt := fun h => canon_top ox cx h
  have bn := fun h => nbits_top ox h (canon_top ox cx h)
  have bg := okW.getD ox (by decide) (xs.length - 1)
  have bv : valB (2 ^ 32) xs < 2 ^ (32 * xs.length) := valB_sz ox rfl
  have bl : nbits (valB (2 ^ 32) xs).toNat ≤ 32 * xs.length := nbits_len ox
  refine rk_seq ?_
  refine rk_reg ?_
  refine lw_v (.int .i64 0) (dv_assign C) ?_
  refine lw_nil ?_
  refine rk_seq ?_
  refine rk_seq ?_
  refine rk_reg ?_
  refine lw_v (.slice A (xs.length) c) (dv_move (T rfl rfl)) ?_
  refine lw_v (.int .i64 ((xs.length : Int))) (dv_len (ad := A) (l := xs.length) (c := c) us60 (T rfl rfl)) ?_
  refine lw_v (.bool (decide (((xs.length : Int)) = 0))) (dv_eql (a := (xs.length : Int)) (b := 0) (T rfl rfl) C) ?_
  refine lw_nil ?_
  by_cases hb1 : ((xs.length : Int)) = 0
  · -- T
    refine rk_ct (T rfl (congrArg Value.bool (decide_eq_true hb1))) ?_
    refine rk_seq ?_
    refine rk_reg ?_
    refine lw_v (.int .i64 0) (dv_assign C) ?_
    refine lw_nil ?_
    refine rk_ret Try.func106 (v := .int .i64 0) (res1 Try.results106 (rv_tmp rfl rfl)) ⟨_, rfl, ?_⟩
    exact ⟨vi (by have h0 : xs = [] := List.eq_nil_of_length_eq_zero (by omega); simp [h0, valB, nbits]), E0⟩
  · -- F
    refine rk_cf (T rfl (congrArg Value.bool (decide_eq_false hb1))) ?_
    refine rk_skip ?_
    refine rk_seq ?_
    refine rk_reg ?_
    refine lw_v (.slice A (xs.length) c) (dv_move (T rfl rfl)) ?_
    refine lw_v (.int .i64 ((xs.length : Int))) (dv_len (ad := A) (l := xs.length) (c := c) us60 (T rfl rfl)) ?_
    refine lw_v (.int .i64 (((xs.length : Int)) - 1)) (dv_sub (a := (xs.length : Int)) (b := 1) (z := ((xs.length : Int)) - 1) (T rfl rfl) C (wr_i64 (by omega) (by omega))) ?_
    refine lw_v (.int .i64 ((((xs.length : Int)) - 1) * 32)) (dv_mul (a := ((xs.length : Int)) - 1) (b := 32) (z := (((xs.length : Int)) - 1) * 32) (T rfl rfl) C (wr_i64 (by omega) (by omega))) ?_
    refine lw_v (.int .i64 ((((xs.length : Int)) - 1) * 32)) (dv_assign (T rfl rfl)) ?_
    refine lw_nil ?_
    refine rk_seq ?_
    refine rk_reg ?_
    refine lw_v (.slice A (xs.length) c) (dv_move (T rfl rfl)) ?_
    refine lw_v (.slice A (xs.length) c) (dv_move (T rfl rfl)) ?_
    refine lw_v (.int .i64 ((xs.length : Int))) (dv_len (ad := A) (l := xs.length) (c := c) us60 (T rfl rfl)) ?_
    refine lw_v (.int .i64 (((xs.length : Int)) - 1)) (dv_sub (a := (xs.length : Int)) (b := 1) (z := ((xs.length : Int)) - 1) (T rfl rfl) C (wr_i64 (by omega) (by omega))) ?_
    obtain ⟨g2, o3, rfl⟩ := Wd.at hx (by first | omega | (simp; done) | (simp; omega))
    refine lw_v (.pointer (some ⟨g2, o3 + ((xs.length) - 1), none⟩)) (dv_indexW (g := g2) (o := o3) (l := xs.length) (c := c) (i := ((xs.length) - 1)) (j := ((xs.length : Int)) - 1) us60 sz115 (T rfl rfl) (T rfl rfl) (by omega) (by first | omega | (simp; done) | (simp; omega))) ?_
    refine lw_v (.int .u32 (xs.getD (((xs.length) - 1)) 0)) (dv_load agt115 (T rfl rfl) (Wd.cell hx (by first | omega | (simp; done) | (simp; omega)))) ?_
    refine lw_v (.int .u32 (xs.getD (((xs.length) - 1)) 0)) (dv_assign (T rfl rfl)) ?_
    refine lw_nil ?_
    refine rk_seq ?_
    refine rk_block ?_
    refine rk_loop (fun dm_ fr wl => ∃ (x q : Int), dm_ = x.toNat ∧ fr 2 = .int .i64 0 ∧ fr 3 = .int .i64 q ∧ fr 4 = .int .u32 x ∧ Below w.heap.size w wl ∧ (0 ≤ x ∧ x < 4294967296) ∧ (0 ≤ q ∧ q + (nbits x.toNat : Int) = (nbits (valB (2 ^ 32) xs).toNat : Int)) ∧ (nbits x.toNat ≤ 32)) ((xs.getD (((xs.length) - 1)) 0).toNat) ⟨xs.getD (((xs.length) - 1)) 0, (((xs.length : Int)) - 1) * 32, rfl, rfl, rfl, rfl, E0, (by omega), (by omega), (nbits_le_iff.2 (by omega))⟩ ?_
    intro d8 fr7 w4 hI5 ih6
    obtain ⟨x, q, hd13, f9, f10, f11, E12, hx0, hq, hnb⟩ := hI5
    have hh : 0 < x → nbits x.toNat = nbits (x / 2).toNat + 1 := fun h => by rw [nbits_half (by omega), show (x / 2).toNat = x.toNat / 2 by omega]
    refine rk_seq ?_
    refine rk_seq ?_
    refine rk_reg ?_
    refine lw_v (.int .u32 x) (dv_move (T rfl f11)) ?_
    refine lw_v (.bool (decide (0 < x))) (dv_gtr (a := x) (b := 0) (T rfl rfl) C) ?_
    refine lw_nil ?_
    by_cases hb14 : 0 < x
    · -- FLT
      refine rk_ct (T rfl (congrArg Value.bool (decide_eq_true hb14))) ?_
      refine rk_skip ?_
      refine rk_block ?_
      refine rk_seq ?_
      refine rk_reg ?_
      refine lw_v (.int .i64 q) (dv_move (T rfl f10)) ?_
      refine lw_v (.int .i64 (q + 1)) (dv_add (a := q) (b := 1) (z := q + 1) (T rfl rfl) C (wr_i64 (by omega) (by omega))) ?_
      refine lw_v (.int .i64 (q + 1)) (dv_assign (T rfl rfl)) ?_
      refine lw_nil ?_
      refine rk_reg ?_
      refine lw_v (.int .u32 x) (dv_move (T rfl f11)) ?_
      refine lw_v (.int .u32 (x / 2)) (dv_shr (a := x) (b := 1) (z := x / 2) (T rfl rfl) C (by decide) (shr_c (n := 1) (by omega) (by decide))) ?_
      refine lw_v (.int .u32 (x / 2)) (dv_assign (T rfl rfl)) ?_
      refine lw_nil ?_
      refine rk_inBlock ?_
      exact ih6 ((x / 2).toNat) _ _ (by rw [hd13]; omega) ⟨x / 2, q + 1, rfl, f9, rfl, rfl, E12, (by omega), (by omega), (by omega)⟩
    · -- FLF
      refine rk_cf (T rfl (congrArg Value.bool (decide_eq_false hb14))) ?_
      refine rk_exit rfl ?_
      refine rk_seq ?_
      refine rk_reg ?_
      refine lw_v (.int .i64 q) (dv_move (T rfl f10)) ?_
      refine lw_v (.int .i64 q) (dv_assign (T rfl rfl)) ?_
      refine lw_nil ?_
      refine rk_ret Try.func106 (v := .int .i64 q) (res1 Try.results106 (rv_tmp rfl rfl)) ⟨_, rfl, ?_⟩
      exact ⟨vi (by have h0 : nbits x.toNat = 0 := (congrArg nbits (show x.toNat = 0 by omega)).trans nbits_zero; omega), E12⟩

theorem l1Bits_wc {w : World} {A : Option Addr} {l c : Nat} {x : Int} (h : Wc 32 115 .u32 w A l c x) (hl : l ≤ 1000000) : Ct Try.prog 106 [.slice A l c] w fun v w1 => v = .int .i64 (nbits x.toNat : Int) ∧ Ext w w1 := by
  obtain ⟨xs, rfl, hc, hw, ho, hk, rfl⟩ := h
  exact l1Bits_ok hw hc ho hk hl

end Go.Proofs.Ytpnjkjahfklfnaa.W
