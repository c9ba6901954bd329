/- Wk13: walks, written by a program of this session. -/
import Derived.Test.YtpnjkjahfklfnaaWk11
import Derived.Test.YtpnjkjahfklfnaaMa13
set_option linter.unusedVariables false
set_option linter.unusedSimpArgs false
namespace Go.Proofs.Ytpnjkjahfklfnaa.W
open Go Go.RowKit Go.Proofs.Ytpnjkjahfklfnaa.Fw
attribute [local irreducible] RunK LW AW DV OE Ct

theorem lzS_ok {w : World} {x : Int} (h0 : 0 < x) (h1 : x < 18446744073709551616) : Ct Try.prog 108 [.int .u64 x] w fun v w1 => ∃ S : Nat, v = .int .i64 (S : Int) ∧ Ext w w1 ∧ S ≤ 63 ∧ 9223372036854775808 ≤ x * 2 ^ S ∧ x * 2 ^ S < 18446744073709551616 := by
  obtain ⟨S, hS, h2, h3, h4⟩ := norm_word h0 h1
  exact (lz_ok (w := w) ⟨by omega, h1⟩).mono fun v w1 ⟨hv, he⟩ => ⟨S, by rw [hv, hS], he, h2, h3, h4⟩
set_option maxHeartbeats 1000000 in
theorem div64_ok {w : World} {hi lo y : Int} (hhi : 0 ≤ hi) (hlt : hi < y) (hyl : y < 18446744073709551616) (hlo : 0 ≤ lo ∧ lo < 18446744073709551616) : Ct Try.prog 123 [.int .u64 hi, .int .u64 lo, .int .u64 y] w fun v w1 => v = .tuple #[.int .u64 ((hi * 18446744073709551616 + lo) / y), .int .u64 ((hi * 18446744073709551616 + lo) % y)] ∧ Ext w w1 := by
  refine ct_run (n := 135) Try.func123 rfl Try.ntmps123 rfl ?_
  have E0 : Below w.heap.size w w := Below.refl _ _
  refine rk_seq ?_
  refine rk_reg ?_
  refine lw_v (.int .u64 0) (dv_assign C) ?_
  refine lw_v (.int .u64 0) (dv_assign C) ?_
  refine lw_nil ?_
  refine rk_seq ?_
  refine rk_seq ?_
  refine rk_reg ?_
  refine lw_v (.int .u64 y) (dv_move (T rfl rfl)) ?_
  refine lw_v (.bool (decide (y = 0))) (dv_eql (a := y) (b := 0) (T rfl rfl) C) ?_
  refine lw_nil ?_
  by_cases hb1 : y = 0
  · -- T
    exfalso; omega
  · -- F
    refine rk_cf (T rfl (congrArg Value.bool (decide_eq_false hb1))) ?_
    refine rk_skip ?_
    refine rk_seq ?_
    refine rk_seq ?_
    refine rk_reg ?_
    refine lw_v (.int .u64 y) (dv_move (T rfl rfl)) ?_
    refine lw_v (.int .u64 hi) (dv_move (T rfl rfl)) ?_
    refine lw_v (.bool (decide (y ≤ hi))) (dv_leq (a := y) (b := hi) (T rfl rfl) (T rfl rfl)) ?_
    refine lw_nil ?_
    by_cases hb2 : y ≤ hi
    · -- FT
      exfalso; omega
    · -- FF
      refine rk_cf (T rfl (congrArg Value.bool (decide_eq_false hb2))) ?_
      refine rk_skip ?_
      refine rk_seq ?_
      refine rk_seq ?_
      refine rk_reg ?_
      refine lw_v (.int .u64 hi) (dv_move (T rfl rfl)) ?_
      refine lw_v (.bool (decide (hi = 0))) (dv_eql (a := hi) (b := 0) (T rfl rfl) C) ?_
      refine lw_nil ?_
      by_cases hb3 : hi = 0
      · -- FFT
        refine rk_ct (T rfl (congrArg Value.bool (decide_eq_true hb3))) ?_
        refine rk_seq ?_
        refine rk_any (fun _ => True) [7] mo ?_
        intro w4 d5
        have E6 := below_ext E0 E0.size d5.ext
        refine aw_pure 0 (.int .u64 lo) rfl (by kernel_rfl) .none trivial (fun _ => dv_move (T rfl rfl)) ?_
        refine aw_pure 1 (.int .u64 y) rfl (by kernel_rfl) .none trivial (fun _ => dv_move (T rfl rfl)) ?_
        have hq7 := ediv_rg (a := lo) (b := y) (by omega) (by omega)
        refine aw_pure 2 (.int .u64 (lo / y)) rfl (by kernel_rfl) .none trivial (fun _ => dv_quo (a := lo) (b := y) (z := lo / y) (T rfl rfl) (T rfl rfl) (by omega) (quo_c (by omega) (by omega) (wn_u64 (by omega) (by omega)))) ?_
        refine aw_pure 3 (.int .u64 lo) rfl (by kernel_rfl) .none trivial (fun _ => dv_move (T rfl rfl)) ?_
        refine aw_pure 4 (.int .u64 y) rfl (by kernel_rfl) .none trivial (fun _ => dv_move (T rfl rfl)) ?_
        refine aw_pure 5 (.int .u64 (lo % y)) rfl (by kernel_rfl) .none trivial (fun _ => dv_rem (a := lo) (b := y) (z := lo % y) (T rfl rfl) (T rfl rfl) (by omega) (rem_c (by omega) rfl)) ?_
        refine aw_pure 6 (.int .u64 (lo / y)) rfl (by kernel_rfl) .none trivial (fun _ => dv_assign (T rfl rfl)) ?_
        refine aw_last 7 (.int .u64 (lo % y)) rfl (by kernel_rfl) .none (fun _ => dv_assign (T rfl rfl)) ?_
        refine aw_done (by kernel_rfl) ?_
        refine rk_ret Try.func123 (v := .tuple #[.int .u64 (lo / y), .int .u64 (lo % y)]) (res2 Try.results123 (rv_tmp rfl rfl) (rv_tmp rfl rfl)) ⟨_, rfl, ?_⟩
        have h0 : hi = 0 := by omega
        subst h0
        exact ⟨tu2 (vi (by rw [Int.zero_mul, Int.zero_add])) (vi (by rw [Int.zero_mul, Int.zero_add])), E6⟩
      · -- FFF
        refine rk_cf (T rfl (congrArg Value.bool (decide_eq_false hb3))) ?_
        refine rk_skip ?_
        refine rk_seq ?_
        refine rk_reg ?_
        refine lw_v (.int .u64 y) (dv_move (T rfl rfl)) ?_
        refine lw_e (oe_callf (vs := [.int .u64 y]) co108 (ar1 (T rfl rfl)) (lzS_ok (by omega) (by omega)) ?_)
        rintro _ w12 ⟨S8, rfl, e13, hs9, hs10, hs11⟩
        have E14 := below_ext E0 E0.size e13
        refine lw_v (.int .u64 ((S8 : Int))) (dv_conv (a := (S8 : Int)) (z := (S8 : Int)) ui3 ui114 (T rfl rfl) (wn_u64 (by omega) (by omega))) ?_
        refine lw_v (.int .u64 ((S8 : Int))) (dv_assign (T rfl rfl)) ?_
        refine lw_nil ?_
        refine rk_seq ?_
        refine rk_reg ?_
        refine lw_v (.int .u64 y) (dv_move (T rfl rfl)) ?_
        refine lw_v (.int .u64 ((S8 : Int))) (dv_move (T rfl rfl)) ?_
        refine lw_v (.int .u64 (y * 2 ^ S8)) (dv_shl (a := y) (b := (S8 : Int)) (z := y * 2 ^ S8) (T rfl rfl) (T rfl rfl) (by omega) (shl_w (K := S8) (by omega) (show _ ≤ 64 by omega) (wn_u64 (by omega) (by omega)))) ?_
        refine lw_v (.int .u64 (y * 2 ^ S8)) (dv_assign (T rfl rfl)) ?_
        refine lw_nil ?_
        refine rk_seq ?_
        obtain ⟨Y, ha15⟩ : ∃ q_ : Int, q_ = y * 2 ^ S8 := ⟨_, rfl⟩
        have hY : 9223372036854775808 ≤ Y ∧ Y < 18446744073709551616 := by rw [ha15]; exact ⟨hs10, hs11⟩
        have htop := shl_top (hi := hi) (y := y) (lo := lo) hs9 hhi hlt hs11 hlo.1 hlo.2
        refine rk_reg ?_
        refine lw_v (.int .u64 Y) (dv_move (T rfl (vi (ha15.symm)))) ?_
        refine lw_v (.int .u64 (Y / 4294967296)) (dv_shr (a := Y) (b := 32) (z := Y / 4294967296) (T rfl rfl) C (by decide) (shr_c (n := 32) (by omega) (by decide))) ?_
        refine lw_v (.int .u64 (Y / 4294967296)) (dv_assign (T rfl rfl)) ?_
        refine lw_nil ?_
        refine rk_seq ?_
        refine rk_reg ?_
        refine lw_v (.int .u64 Y) (dv_move (T rfl (vi (ha15.symm)))) ?_
        refine lw_v (.int .u64 (Y % 4294967296)) (dv_and (a := Y) (b := 4294967295) (z := Y % 4294967296) (T rfl rfl) C (and_mask (n := 32) (by omega) (by omega) (by decide))) ?_
        refine lw_v (.int .u64 (Y % 4294967296)) (dv_assign (T rfl rfl)) ?_
        refine lw_nil ?_
        refine rk_seq ?_
        refine rk_reg ?_
        refine lw_v (.int .u64 hi) (dv_move (T rfl rfl)) ?_
        refine lw_v (.int .u64 ((S8 : Int))) (dv_move (T rfl rfl)) ?_
        refine lw_v (.int .u64 (hi * 2 ^ S8)) (dv_shl (a := hi) (b := (S8 : Int)) (z := hi * 2 ^ S8) (T rfl rfl) (T rfl rfl) (by omega) (shl_w (K := S8) (by omega) (show _ ≤ 64 by omega) (wn_u64 (by omega) (by omega)))) ?_
        refine lw_v (.int .u64 lo) (dv_move (T rfl rfl)) ?_
        refine lw_v (.int .u64 ((S8 : Int))) (dv_move (T rfl rfl)) ?_
        refine lw_v (.int .u64 (64 - ((S8 : Int)))) (dv_sub (a := 64) (b := (S8 : Int)) (z := 64 - ((S8 : Int))) C (T rfl rfl) (wn_u64 (by omega) (by omega))) ?_
        refine lw_v (.int .u64 (lo / 2 ^ ((64 - (S8))))) (dv_shr (a := lo) (b := 64 - ((S8 : Int))) (z := lo / 2 ^ ((64 - (S8)))) (T rfl rfl) (T rfl rfl) (by omega) (shr_v (K := (64 - (S8))) (by omega) (show _ ≤ 64 by omega))) ?_
        refine lw_v (.int .u64 ((hi * 2 ^ S8) + (lo / 2 ^ ((64 - (S8)))))) (dv_or (a := hi * 2 ^ S8) (b := lo / 2 ^ ((64 - (S8)))) (z := (hi * 2 ^ S8) + (lo / 2 ^ ((64 - (S8))))) (T rfl rfl) (T rfl rfl) ((or_add (k := .u64) (a := lo / 2 ^ (64 - S8)) (b := hi * 2 ^ S8) (i := S8) rfl htop.1 htop.2.1 htop.2.2.1 (Int.mul_emod_left _ _) (lt64 (by omega)) (lt64 (by omega))).2.trans (Int.add_comm _ _))) ?_
        refine lw_v (.int .u64 ((hi * 2 ^ S8) + (lo / 2 ^ ((64 - (S8)))))) (dv_assign (T rfl rfl)) ?_
        refine lw_nil ?_
        refine rk_seq ?_
        obtain ⟨Uu, ha16⟩ : ∃ q_ : Int, q_ = hi * 2 ^ S8 + lo / 2 ^ (64 - S8) := ⟨_, rfl⟩
        have hUr : 0 ≤ Uu ∧ Uu < Y := by rw [ha16, ha15]; omega
        refine rk_reg ?_
        refine lw_v (.int .u64 lo) (dv_move (T rfl rfl)) ?_
        refine lw_v (.int .u64 ((S8 : Int))) (dv_move (T rfl rfl)) ?_
        refine lw_v (.int .u64 ((lo * 2 ^ S8) % 18446744073709551616)) (dv_shl (a := lo) (b := (S8 : Int)) (z := (lo * 2 ^ S8) % 18446744073709551616) (T rfl rfl) (T rfl rfl) (by omega) (shl_w (K := S8) (by omega) (show _ ≤ 64 by omega) (wr_u64 _))) ?_
        refine lw_v (.int .u64 ((lo * 2 ^ S8) % 18446744073709551616)) (dv_assign (T rfl rfl)) ?_
        refine lw_nil ?_
        refine rk_seq ?_
        obtain ⟨un, ha17⟩ : ∃ q_ : Int, q_ = lo * 2 ^ S8 % 18446744073709551616 := ⟨_, rfl⟩
        have hun : 0 ≤ un ∧ un < 18446744073709551616 := by rw [ha17]; exact ⟨Int.emod_nonneg _ (by decide), Int.emod_lt_of_pos _ (by decide)⟩
        have hN : (Uu * 4294967296 + un / 4294967296) * 4294967296 + un % 4294967296 = (hi * 18446744073709551616 + lo) * 2 ^ S8 := by
          have h1 := shl_split (x := lo) (S := S8) (by omega)
          rw [← ha17] at h1
          have h2 : (hi * 18446744073709551616 + lo) * 2 ^ S8 = (hi * 2 ^ S8) * 18446744073709551616 + lo * 2 ^ S8 := by grind
          rw [h2, ← h1, ha16]; omega
        have hg := half_guess (U := Uu) (u := un / 4294967296) (Y := Y) hY.1 hY.2 hUr.1 hUr.2 (by omega) (by omega)
        refine rk_reg ?_
        refine lw_v (.int .u64 un) (dv_move (T rfl (vi (ha17.symm)))) ?_
        refine lw_v (.int .u64 (un / 4294967296)) (dv_shr (a := un) (b := 32) (z := un / 4294967296) (T rfl rfl) C (by decide) (shr_c (n := 32) (by omega) (by decide))) ?_
        refine lw_v (.int .u64 (un / 4294967296)) (dv_assign (T rfl rfl)) ?_
        refine lw_nil ?_
        refine rk_seq ?_
        refine rk_reg ?_
        refine lw_v (.int .u64 un) (dv_move (T rfl (vi (ha17.symm)))) ?_
        refine lw_v (.int .u64 (un % 4294967296)) (dv_and (a := un) (b := 4294967295) (z := un % 4294967296) (T rfl rfl) C (and_mask (n := 32) (by omega) (by omega) (by decide))) ?_
        refine lw_v (.int .u64 (un % 4294967296)) (dv_assign (T rfl rfl)) ?_
        refine lw_nil ?_
        refine rk_seq ?_
        refine rk_reg ?_
        refine lw_v (.int .u64 Uu) (dv_move (T rfl (vi (ha16.symm)))) ?_
        refine lw_v (.int .u64 (Y / 4294967296)) (dv_move (T rfl rfl)) ?_
        have hq18 := ediv_rg (a := Uu) (b := Y / 4294967296) (by omega) (by omega)
        refine lw_v (.int .u64 (Uu / (Y / 4294967296))) (dv_quo (a := Uu) (b := Y / 4294967296) (z := Uu / (Y / 4294967296)) (T rfl rfl) (T rfl rfl) (by omega) (quo_c (by omega) (by omega) (wn_u64 (by omega) (by omega)))) ?_
        refine lw_v (.int .u64 (Uu / (Y / 4294967296))) (dv_assign (T rfl rfl)) ?_
        refine lw_nil ?_
        refine rk_seq ?_
        refine rk_reg ?_
        refine lw_v (.int .u64 Uu) (dv_move (T rfl (vi (ha16.symm)))) ?_
        refine lw_v (.int .u64 (Uu / (Y / 4294967296))) (dv_move (T rfl rfl)) ?_
        refine lw_v (.int .u64 (Y / 4294967296)) (dv_move (T rfl rfl)) ?_
        refine lw_v (.int .u64 ((Uu / (Y / 4294967296)) * (Y / 4294967296))) (dv_mul (a := Uu / (Y / 4294967296)) (b := Y / 4294967296) (z := (Uu / (Y / 4294967296)) * (Y / 4294967296)) (T rfl rfl) (T rfl rfl) (wn_u64 (by omega) (by omega))) ?_
        refine lw_v (.int .u64 (Uu - ((Uu / (Y / 4294967296)) * (Y / 4294967296)))) (dv_sub (a := Uu) (b := (Uu / (Y / 4294967296)) * (Y / 4294967296)) (z := Uu - ((Uu / (Y / 4294967296)) * (Y / 4294967296))) (T rfl rfl) (T rfl rfl) (wn_u64 (by omega) (by omega))) ?_
        refine lw_v (.int .u64 (Uu - ((Uu / (Y / 4294967296)) * (Y / 4294967296)))) (dv_assign (T rfl rfl)) ?_
        refine lw_nil ?_
        refine rk_seq ?_
        refine rk_join (fun fr wl => ∃ (qa : Int), fr 2 = .int .u64 Y ∧ fr 6 = .int .u64 0 ∧ fr 7 = .int .u64 0 ∧ fr 8 = .int .u64 ((S8 : Int)) ∧ fr 9 = .int .u64 (Y / 4294967296) ∧ fr 10 = .int .u64 (Y % 4294967296) ∧ fr 11 = .int .u64 Uu ∧ fr 13 = .int .u64 (un / 4294967296) ∧ fr 14 = .int .u64 (un % 4294967296) ∧ fr 15 = .int .u64 qa ∧ Below w.heap.size w wl ∧ (qa * Y ≤ Uu * 4294967296 + un / 4294967296) ∧ (Uu * 4294967296 + un / 4294967296 < (qa + 1) * Y) ∧ (0 ≤ qa)) ?_ (fun hj21 => ?_)
        · -- behind the join
          intro fr22 w19 hI20
          obtain ⟨qa, f23, f24, f25, f26, f27, f28, f29, f30, f31, f32, E33, haqa, hbqa, h0qa⟩ := hI20
          refine rk_seq ?_
          have hlt1 := half_lt haqa hUr.2 (by omega) (by omega)
          have heq1 : (qa + 1) * Y = qa * Y + Y := by grind
          refine rk_reg ?_
          refine lw_v (.int .u64 Uu) (dv_move (T rfl f29)) ?_
          refine lw_v (.int .u64 ((Uu * 4294967296) % 18446744073709551616)) (dv_mul (a := Uu) (b := 4294967296) (z := (Uu * 4294967296) % 18446744073709551616) (T rfl rfl) C (wr_u64 _)) ?_
          refine lw_v (.int .u64 (un / 4294967296)) (dv_move (T rfl f30)) ?_
          refine lw_v (.int .u64 ((((Uu * 4294967296) % 18446744073709551616) + (un / 4294967296)) % 18446744073709551616)) (dv_add (a := (Uu * 4294967296) % 18446744073709551616) (b := un / 4294967296) (z := (((Uu * 4294967296) % 18446744073709551616) + (un / 4294967296)) % 18446744073709551616) (T rfl rfl) (T rfl rfl) (wr_u64 _)) ?_
          refine lw_v (.int .u64 qa) (dv_move (T rfl f32)) ?_
          refine lw_v (.int .u64 Y) (dv_move (T rfl f23)) ?_
          refine lw_v (.int .u64 ((qa * Y) % 18446744073709551616)) (dv_mul (a := qa) (b := Y) (z := (qa * Y) % 18446744073709551616) (T rfl rfl) (T rfl rfl) (wr_u64 _)) ?_
          refine lw_v (.int .u64 ((((((Uu * 4294967296) % 18446744073709551616) + (un / 4294967296)) % 18446744073709551616) - ((qa * Y) % 18446744073709551616)) % 18446744073709551616)) (dv_sub (a := (((Uu * 4294967296) % 18446744073709551616) + (un / 4294967296)) % 18446744073709551616) (b := (qa * Y) % 18446744073709551616) (z := (((((Uu * 4294967296) % 18446744073709551616) + (un / 4294967296)) % 18446744073709551616) - ((qa * Y) % 18446744073709551616)) % 18446744073709551616) (T rfl rfl) (T rfl rfl) (wr_u64 _)) ?_
          refine lw_v (.int .u64 ((((((Uu * 4294967296) % 18446744073709551616) + (un / 4294967296)) % 18446744073709551616) - ((qa * Y) % 18446744073709551616)) % 18446744073709551616)) (dv_assign (T rfl rfl)) ?_
          refine lw_nil ?_
          refine rk_seq ?_
          have hVe : (((((Uu * 4294967296) % 18446744073709551616) + (un / 4294967296)) % 18446744073709551616) - ((qa * Y) % 18446744073709551616)) % 18446744073709551616 = Uu * 4294967296 + un / 4294967296 - qa * Y := by omega
          obtain ⟨V, ha34⟩ : ∃ q_ : Int, q_ = Uu * 4294967296 + un / 4294967296 - qa * Y := ⟨_, rfl⟩
          have hVr : 0 ≤ V ∧ V < Y := by omega
          have hg0 := half_guess (U := V) (u := un % 4294967296) (Y := Y) hY.1 hY.2 hVr.1 hVr.2 (by omega) (by omega)
          refine rk_reg ?_
          refine lw_v (.int .u64 V) (dv_move (T rfl (vi ((hVe).trans ha34.symm)))) ?_
          refine lw_v (.int .u64 (Y / 4294967296)) (dv_move (T rfl f27)) ?_
          have hq35 := ediv_rg (a := V) (b := Y / 4294967296) (by omega) (by omega)
          refine lw_v (.int .u64 (V / (Y / 4294967296))) (dv_quo (a := V) (b := Y / 4294967296) (z := V / (Y / 4294967296)) (T rfl rfl) (T rfl rfl) (by omega) (quo_c (by omega) (by omega) (wn_u64 (by omega) (by omega)))) ?_
          refine lw_v (.int .u64 (V / (Y / 4294967296))) (dv_assign (T rfl rfl)) ?_
          refine lw_nil ?_
          refine rk_seq ?_
          refine rk_reg ?_
          refine lw_v (.int .u64 V) (dv_move (T rfl (vi ((hVe).trans ha34.symm)))) ?_
          refine lw_v (.int .u64 (V / (Y / 4294967296))) (dv_move (T rfl rfl)) ?_
          refine lw_v (.int .u64 (Y / 4294967296)) (dv_move (T rfl f27)) ?_
          refine lw_v (.int .u64 ((V / (Y / 4294967296)) * (Y / 4294967296))) (dv_mul (a := V / (Y / 4294967296)) (b := Y / 4294967296) (z := (V / (Y / 4294967296)) * (Y / 4294967296)) (T rfl rfl) (T rfl rfl) (wn_u64 (by omega) (by omega))) ?_
          refine lw_v (.int .u64 (V - ((V / (Y / 4294967296)) * (Y / 4294967296)))) (dv_sub (a := V) (b := (V / (Y / 4294967296)) * (Y / 4294967296)) (z := V - ((V / (Y / 4294967296)) * (Y / 4294967296))) (T rfl rfl) (T rfl rfl) (wn_u64 (by omega) (by omega))) ?_
          refine lw_v (.int .u64 (V - ((V / (Y / 4294967296)) * (Y / 4294967296)))) (dv_assign (T rfl rfl)) ?_
          refine lw_nil ?_
          refine rk_seq ?_
          refine rk_join (fun fr wl => ∃ (qb : Int), fr 2 = .int .u64 Y ∧ fr 6 = .int .u64 0 ∧ fr 7 = .int .u64 0 ∧ fr 8 = .int .u64 ((S8 : Int)) ∧ fr 14 = .int .u64 (un % 4294967296) ∧ fr 15 = .int .u64 qa ∧ fr 17 = .int .u64 V ∧ fr 18 = .int .u64 qb ∧ Below w.heap.size w wl ∧ (qb * Y ≤ V * 4294967296 + un % 4294967296) ∧ (V * 4294967296 + un % 4294967296 < (qb + 1) * Y) ∧ (0 ≤ qb)) ?_ (fun hj38 => ?_)
          · -- behind the join
            intro fr39 w36 hI37
            obtain ⟨qb, f40, f41, f42, f43, f44, f45, f46, f47, E48, haqb, hbqb, h0qb⟩ := hI37
            refine rk_seq ?_
            have hlt2 := half_lt haqb hVr.2 (by omega) (by omega)
            have heq2 : (qb + 1) * Y = qb * Y + Y := by grind
            have ht := two_halves (hi := hi) (lo := lo) (y := y) (p := 2 ^ S8) (N := 0) (U := Uu) (u1 := un / 4294967296) (u0 := un % 4294967296) (q1 := qa) (q0 := qb) (two_pos S8) (by omega) hN (by rw [← ha15]; exact haqa) (by rw [← ha15]; exact hbqa) (by rw [← ha15, ← ha34]; exact haqb) (by rw [← ha15, ← ha34]; exact hbqb) rfl
            rw [← ha15, ← ha34] at ht
            refine rk_reg ?_
            refine lw_v (.int .u64 qa) (dv_move (T rfl f45)) ?_
            refine lw_v (.int .u64 ((qa * 4294967296) % 18446744073709551616)) (dv_mul (a := qa) (b := 4294967296) (z := (qa * 4294967296) % 18446744073709551616) (T rfl rfl) C (wr_u64 _)) ?_
            refine lw_v (.int .u64 qb) (dv_move (T rfl f47)) ?_
            refine lw_v (.int .u64 ((((qa * 4294967296) % 18446744073709551616) + qb) % 18446744073709551616)) (dv_add (a := (qa * 4294967296) % 18446744073709551616) (b := qb) (z := (((qa * 4294967296) % 18446744073709551616) + qb) % 18446744073709551616) (T rfl rfl) (T rfl rfl) (wr_u64 _)) ?_
            refine lw_v (.int .u64 V) (dv_move (T rfl f46)) ?_
            refine lw_v (.int .u64 ((V * 4294967296) % 18446744073709551616)) (dv_mul (a := V) (b := 4294967296) (z := (V * 4294967296) % 18446744073709551616) (T rfl rfl) C (wr_u64 _)) ?_
            refine lw_v (.int .u64 (un % 4294967296)) (dv_move (T rfl f44)) ?_
            refine lw_v (.int .u64 ((((V * 4294967296) % 18446744073709551616) + (un % 4294967296)) % 18446744073709551616)) (dv_add (a := (V * 4294967296) % 18446744073709551616) (b := un % 4294967296) (z := (((V * 4294967296) % 18446744073709551616) + (un % 4294967296)) % 18446744073709551616) (T rfl rfl) (T rfl rfl) (wr_u64 _)) ?_
            refine lw_v (.int .u64 qb) (dv_move (T rfl f47)) ?_
            refine lw_v (.int .u64 Y) (dv_move (T rfl f40)) ?_
            refine lw_v (.int .u64 ((qb * Y) % 18446744073709551616)) (dv_mul (a := qb) (b := Y) (z := (qb * Y) % 18446744073709551616) (T rfl rfl) (T rfl rfl) (wr_u64 _)) ?_
            refine lw_v (.int .u64 ((((((V * 4294967296) % 18446744073709551616) + (un % 4294967296)) % 18446744073709551616) - ((qb * Y) % 18446744073709551616)) % 18446744073709551616)) (dv_sub (a := (((V * 4294967296) % 18446744073709551616) + (un % 4294967296)) % 18446744073709551616) (b := (qb * Y) % 18446744073709551616) (z := (((((V * 4294967296) % 18446744073709551616) + (un % 4294967296)) % 18446744073709551616) - ((qb * Y) % 18446744073709551616)) % 18446744073709551616) (T rfl rfl) (T rfl rfl) (wr_u64 _)) ?_
            refine lw_v (.int .u64 ((S8 : Int))) (dv_move (T rfl f43)) ?_
            refine lw_v (.int .u64 (((((((V * 4294967296) % 18446744073709551616) + (un % 4294967296)) % 18446744073709551616) - ((qb * Y) % 18446744073709551616)) % 18446744073709551616) / 2 ^ S8)) (dv_shr (a := (((((V * 4294967296) % 18446744073709551616) + (un % 4294967296)) % 18446744073709551616) - ((qb * Y) % 18446744073709551616)) % 18446744073709551616) (b := (S8 : Int)) (z := ((((((V * 4294967296) % 18446744073709551616) + (un % 4294967296)) % 18446744073709551616) - ((qb * Y) % 18446744073709551616)) % 18446744073709551616) / 2 ^ S8) (T rfl rfl) (T rfl rfl) (by omega) (shr_v (K := S8) (by omega) (show _ ≤ 64 by omega))) ?_
            refine lw_v (.int .u64 ((((qa * 4294967296) % 18446744073709551616) + qb) % 18446744073709551616)) (dv_assign (T rfl rfl)) ?_
            refine lw_v (.int .u64 (((((((V * 4294967296) % 18446744073709551616) + (un % 4294967296)) % 18446744073709551616) - ((qb * Y) % 18446744073709551616)) % 18446744073709551616) / 2 ^ S8)) (dv_assign (T rfl rfl)) ?_
            refine lw_nil ?_
            refine rk_ret Try.func123 (v := .tuple #[.int .u64 ((((qa * 4294967296) % 18446744073709551616) + qb) % 18446744073709551616), .int .u64 (((((((V * 4294967296) % 18446744073709551616) + (un % 4294967296)) % 18446744073709551616) - ((qb * Y) % 18446744073709551616)) % 18446744073709551616) / 2 ^ S8)]) (res2 Try.results123 (rv_tmp rfl rfl) (rv_tmp rfl rfl)) ⟨_, rfl, ?_⟩
            have hR : (((((V * 4294967296) % 18446744073709551616) + (un % 4294967296)) % 18446744073709551616) - ((qb * Y) % 18446744073709551616)) % 18446744073709551616 = V * 4294967296 + un % 4294967296 - qb * Y := by omega
            exact ⟨tu2 (vi (by rw [← ht.1]; omega)) (vi (by rw [hR]; exact ht.2)), E48⟩
          · -- up to the join
            refine rk_block ?_
            refine rk_loop (fun dm_ fr wl => ∃ (q r : Int), dm_ = q.toNat ∧ fr 2 = .int .u64 Y ∧ fr 6 = .int .u64 0 ∧ fr 7 = .int .u64 0 ∧ fr 8 = .int .u64 ((S8 : Int)) ∧ fr 9 = .int .u64 (Y / 4294967296) ∧ fr 10 = .int .u64 (Y % 4294967296) ∧ fr 14 = .int .u64 (un % 4294967296) ∧ fr 15 = .int .u64 qa ∧ fr 16 = .int .u64 r ∧ fr 17 = .int .u64 V ∧ fr 18 = .int .u64 q ∧ Below w.heap.size w wl ∧ (q * (Y / 4294967296) + r = V) ∧ (0 ≤ q ∧ q ≤ 4294967297) ∧ (0 ≤ r ∧ r < 4294967296) ∧ (V * 4294967296 + un % 4294967296 < (q + 1) * Y)) ((V / (Y / 4294967296)).toNat) ⟨V / (Y / 4294967296), V - ((V / (Y / 4294967296)) * (Y / 4294967296)), rfl, f23, f24, f25, f26, f27, f28, f31, f32, rfl, (vi ((hVe).trans ha34.symm)), rfl, E33, (by omega), ⟨by omega, by omega⟩, ⟨by omega, by omega⟩, hg0.2.2.2.2⟩ ?_
            intro d53 fr52 w49 hI50 ih51
            obtain ⟨q, r, hd66, f54, f55, f56, f57, f58, f59, f60, f61, f62, f63, f64, E65, hq, hq0, hr, hNq⟩ := hI50
            have hql : 4294967296 ≤ q ∨ r * 4294967296 + un % 4294967296 < q * (Y % 4294967296) → 1 ≤ q := fun h => by
              rcases h with h | h
              · omega
              · exact pos_of_mul hq0.1 (by omega) (by omega) h
            refine rk_seq ?_
            refine rk_seq ?_
            refine rk_reg ?_
            refine lw_v (.int .u64 q) (dv_move (T rfl f64)) ?_
            refine lw_v (.bool (decide (4294967296 ≤ q))) (dv_geq (a := q) (b := 4294967296) (T rfl rfl) C) ?_
            refine lw_v (.bool (decide (4294967296 ≤ q))) (dv_move (T rfl rfl)) ?_
            by_cases hb67 : 4294967296 ≤ q
            · -- FFFJLT
              refine lw_no (d := 104) rfl rfl (congrArg Value.bool (decide_eq_true hb67)) ?_
              refine lw_no (d := 104) rfl rfl (congrArg Value.bool (decide_eq_true hb67)) ?_
              refine lw_no (d := 104) rfl rfl (congrArg Value.bool (decide_eq_true hb67)) ?_
              refine lw_no (d := 104) rfl rfl (congrArg Value.bool (decide_eq_true hb67)) ?_
              refine lw_no (d := 104) rfl rfl (congrArg Value.bool (decide_eq_true hb67)) ?_
              refine lw_no (d := 104) rfl rfl (congrArg Value.bool (decide_eq_true hb67)) ?_
              refine lw_no (d := 104) rfl rfl (congrArg Value.bool (decide_eq_true hb67)) ?_
              refine lw_no (d := 104) rfl rfl (congrArg Value.bool (decide_eq_true hb67)) ?_
              refine lw_v (.bool true) (dv_pick_t (T rfl (congrArg Value.bool (decide_eq_true hb67))) C) ?_
              refine lw_nil ?_
              refine rk_ct (T rfl rfl) ?_
              refine rk_skip ?_
              refine rk_block ?_
              refine rk_seq ?_
              refine rk_reg ?_
              refine lw_v (.int .u64 q) (dv_move (T rfl f64)) ?_
              refine lw_v (.int .u64 (q - 1)) (dv_sub (a := q) (b := 1) (z := q - 1) (T rfl rfl) C (wn_u64 (by omega) (by omega))) ?_
              refine lw_v (.int .u64 (q - 1)) (dv_assign (T rfl rfl)) ?_
              refine lw_nil ?_
              refine rk_seq ?_
              refine rk_reg ?_
              refine lw_v (.int .u64 r) (dv_move (T rfl f62)) ?_
              refine lw_v (.int .u64 (Y / 4294967296)) (dv_move (T rfl f58)) ?_
              refine lw_v (.int .u64 (r + (Y / 4294967296))) (dv_add (a := r) (b := Y / 4294967296) (z := r + (Y / 4294967296)) (T rfl rfl) (T rfl rfl) (wn_u64 (by omega) (by omega))) ?_
              refine lw_v (.int .u64 (r + (Y / 4294967296))) (dv_assign (T rfl rfl)) ?_
              refine lw_nil ?_
              refine rk_seq ?_
              refine rk_reg ?_
              refine lw_v (.int .u64 (r + (Y / 4294967296))) (dv_move (T rfl rfl)) ?_
              refine lw_v (.bool (decide (4294967296 ≤ (r + (Y / 4294967296))))) (dv_geq (a := r + (Y / 4294967296)) (b := 4294967296) (T rfl rfl) C) ?_
              refine lw_nil ?_
              by_cases hb68 : 4294967296 ≤ (r + (Y / 4294967296))
              · -- FFFJLTT
                refine rk_ct (T rfl (congrArg Value.bool (decide_eq_true hb68))) ?_
                refine rk_exit rfl ?_
                exact hj38 _ _ ⟨q - 1, f54, f55, f56, f57, f60, f61, f63, rfl, E65, (half_ok2 (r := r + (Y / 4294967296)) (by rw [Int.sub_mul, Int.one_mul]; omega) (by omega) (by omega) (by omega) (by omega)), (half_less hq (by omega) hVr.2 (by omega) (by omega)), (by omega)⟩
              · -- FFFJLTF
                refine rk_cf (T rfl (congrArg Value.bool (decide_eq_false hb68))) ?_
                refine rk_skip ?_
                refine rk_inBlock ?_
                exact ih51 ((q - 1).toNat) _ _ (by rw [hd66]; omega) ⟨q - 1, r + (Y / 4294967296), rfl, f54, f55, f56, f57, f58, f59, f60, f61, rfl, f63, rfl, E65, (by rw [Int.sub_mul, Int.one_mul]; omega), ⟨by omega, by omega⟩, ⟨by omega, by omega⟩, (half_less hq (by omega) hVr.2 (by omega) (by omega))⟩
            · -- FFFJLF
              refine lw_vy (.int .u64 q) (d := 104) rfl rfl (congrArg Value.bool (decide_eq_false hb67)) (dv_move (T rfl f64)) ?_
              refine lw_vy (.int .u64 (Y % 4294967296)) (d := 104) rfl rfl (congrArg Value.bool (decide_eq_false hb67)) (dv_move (T rfl f59)) ?_
              have hm69 := mul_pos_bd (A := 4294967295) (show 0 ≤ q by omega) (by omega) (show 0 ≤ (Y % 4294967296) by omega) (by omega)
              refine lw_vy (.int .u64 (q * (Y % 4294967296))) (d := 104) rfl rfl (congrArg Value.bool (decide_eq_false hb67)) (dv_mul (a := q) (b := Y % 4294967296) (z := q * (Y % 4294967296)) (T rfl rfl) (T rfl rfl) (wn_u64 (by omega) (by omega))) ?_
              refine lw_vy (.int .u64 r) (d := 104) rfl rfl (congrArg Value.bool (decide_eq_false hb67)) (dv_move (T rfl f62)) ?_
              refine lw_vy (.int .u64 (4294967296 * r)) (d := 104) rfl rfl (congrArg Value.bool (decide_eq_false hb67)) (dv_mul (a := 4294967296) (b := r) (z := 4294967296 * r) C (T rfl rfl) (wn_u64 (by omega) (by omega))) ?_
              refine lw_vy (.int .u64 (un % 4294967296)) (d := 104) rfl rfl (congrArg Value.bool (decide_eq_false hb67)) (dv_move (T rfl f60)) ?_
              refine lw_vy (.int .u64 ((4294967296 * r) + (un % 4294967296))) (d := 104) rfl rfl (congrArg Value.bool (decide_eq_false hb67)) (dv_add (a := 4294967296 * r) (b := un % 4294967296) (z := (4294967296 * r) + (un % 4294967296)) (T rfl rfl) (T rfl rfl) (wn_u64 (by omega) (by omega))) ?_
              refine lw_vy (.bool (decide (((4294967296 * r) + (un % 4294967296)) < (q * (Y % 4294967296))))) (d := 104) rfl rfl (congrArg Value.bool (decide_eq_false hb67)) (dv_gtr (a := q * (Y % 4294967296)) (b := (4294967296 * r) + (un % 4294967296)) (T rfl rfl) (T rfl rfl)) ?_
              refine lw_v (.bool (decide (((4294967296 * r) + (un % 4294967296)) < (q * (Y % 4294967296))))) (dv_pick_f (T rfl (congrArg Value.bool (decide_eq_false hb67))) (T rfl rfl)) ?_
              refine lw_nil ?_
              by_cases hb70 : ((4294967296 * r) + (un % 4294967296)) < (q * (Y % 4294967296))
              · -- FFFJLFT
                refine rk_ct (T rfl (congrArg Value.bool (decide_eq_true hb70))) ?_
                refine rk_skip ?_
                refine rk_block ?_
                refine rk_seq ?_
                refine rk_reg ?_
                refine lw_v (.int .u64 q) (dv_move (T rfl f64)) ?_
                refine lw_v (.int .u64 (q - 1)) (dv_sub (a := q) (b := 1) (z := q - 1) (T rfl rfl) C (wn_u64 (by omega) (by omega))) ?_
                refine lw_v (.int .u64 (q - 1)) (dv_assign (T rfl rfl)) ?_
                refine lw_nil ?_
                refine rk_seq ?_
                refine rk_reg ?_
                refine lw_v (.int .u64 r) (dv_move (T rfl f62)) ?_
                refine lw_v (.int .u64 (Y / 4294967296)) (dv_move (T rfl f58)) ?_
                refine lw_v (.int .u64 (r + (Y / 4294967296))) (dv_add (a := r) (b := Y / 4294967296) (z := r + (Y / 4294967296)) (T rfl rfl) (T rfl rfl) (wn_u64 (by omega) (by omega))) ?_
                refine lw_v (.int .u64 (r + (Y / 4294967296))) (dv_assign (T rfl rfl)) ?_
                refine lw_nil ?_
                refine rk_seq ?_
                refine rk_reg ?_
                refine lw_v (.int .u64 (r + (Y / 4294967296))) (dv_move (T rfl rfl)) ?_
                refine lw_v (.bool (decide (4294967296 ≤ (r + (Y / 4294967296))))) (dv_geq (a := r + (Y / 4294967296)) (b := 4294967296) (T rfl rfl) C) ?_
                refine lw_nil ?_
                by_cases hb71 : 4294967296 ≤ (r + (Y / 4294967296))
                · -- FFFJLFTT
                  refine rk_ct (T rfl (congrArg Value.bool (decide_eq_true hb71))) ?_
                  refine rk_exit rfl ?_
                  exact hj38 _ _ ⟨q - 1, f54, f55, f56, f57, f60, f61, f63, rfl, E65, (half_ok2 (r := r + (Y / 4294967296)) (by rw [Int.sub_mul, Int.one_mul]; omega) (by omega) (by omega) (by omega) (by omega)), (half_less hq (by omega) hVr.2 (by omega) (by omega)), (by omega)⟩
                · -- FFFJLFTF
                  refine rk_cf (T rfl (congrArg Value.bool (decide_eq_false hb71))) ?_
                  refine rk_skip ?_
                  refine rk_inBlock ?_
                  exact ih51 ((q - 1).toNat) _ _ (by rw [hd66]; omega) ⟨q - 1, r + (Y / 4294967296), rfl, f54, f55, f56, f57, f58, f59, f60, f61, rfl, f63, rfl, E65, (by rw [Int.sub_mul, Int.one_mul]; omega), ⟨by omega, by omega⟩, ⟨by omega, by omega⟩, (half_less hq (by omega) hVr.2 (by omega) (by omega))⟩
              · -- FFFJLFF
                refine rk_cf (T rfl (congrArg Value.bool (decide_eq_false hb70))) ?_
                refine rk_exit rfl ?_
                exact hj38 _ _ ⟨q, f54, f55, f56, f57, f60, f61, f63, f64, E65, (half_ok hq (by omega)), hNq, hq0.1⟩
        · -- up to the join
          refine rk_block ?_
          refine rk_loop (fun dm_ fr wl => ∃ (q r : Int), dm_ = q.toNat ∧ fr 2 = .int .u64 Y ∧ fr 6 = .int .u64 0 ∧ fr 7 = .int .u64 0 ∧ fr 8 = .int .u64 ((S8 : Int)) ∧ fr 9 = .int .u64 (Y / 4294967296) ∧ fr 10 = .int .u64 (Y % 4294967296) ∧ fr 11 = .int .u64 Uu ∧ fr 13 = .int .u64 (un / 4294967296) ∧ fr 14 = .int .u64 (un % 4294967296) ∧ fr 15 = .int .u64 q ∧ fr 16 = .int .u64 r ∧ Below w.heap.size w wl ∧ (q * (Y / 4294967296) + r = Uu) ∧ (0 ≤ q ∧ q ≤ 4294967297) ∧ (0 ≤ r ∧ r < 4294967296) ∧ (Uu * 4294967296 + un / 4294967296 < (q + 1) * Y)) ((Uu / (Y / 4294967296)).toNat) ⟨Uu / (Y / 4294967296), Uu - ((Uu / (Y / 4294967296)) * (Y / 4294967296)), rfl, (vi (ha15.symm)), rfl, rfl, rfl, rfl, rfl, (vi (ha16.symm)), rfl, rfl, rfl, rfl, E14, (by omega), ⟨by omega, by omega⟩, ⟨by omega, by omega⟩, hg.2.2.2.2⟩ ?_
          intro d76 fr75 w72 hI73 ih74
          obtain ⟨q, r, hd89, f77, f78, f79, f80, f81, f82, f83, f84, f85, f86, f87, E88, hq, hq0, hr, hNq⟩ := hI73
          have hql : 4294967296 ≤ q ∨ r * 4294967296 + un / 4294967296 < q * (Y % 4294967296) → 1 ≤ q := fun h => by
            rcases h with h | h
            · omega
            · exact pos_of_mul hq0.1 (by omega) (by omega) h
          refine rk_seq ?_
          refine rk_seq ?_
          refine rk_reg ?_
          refine lw_v (.int .u64 q) (dv_move (T rfl f86)) ?_
          refine lw_v (.bool (decide (4294967296 ≤ q))) (dv_geq (a := q) (b := 4294967296) (T rfl rfl) C) ?_
          refine lw_v (.bool (decide (4294967296 ≤ q))) (dv_move (T rfl rfl)) ?_
          by_cases hb90 : 4294967296 ≤ q
          · -- FFFLT
            refine lw_no (d := 69) rfl rfl (congrArg Value.bool (decide_eq_true hb90)) ?_
            refine lw_no (d := 69) rfl rfl (congrArg Value.bool (decide_eq_true hb90)) ?_
            refine lw_no (d := 69) rfl rfl (congrArg Value.bool (decide_eq_true hb90)) ?_
            refine lw_no (d := 69) rfl rfl (congrArg Value.bool (decide_eq_true hb90)) ?_
            refine lw_no (d := 69) rfl rfl (congrArg Value.bool (decide_eq_true hb90)) ?_
            refine lw_no (d := 69) rfl rfl (congrArg Value.bool (decide_eq_true hb90)) ?_
            refine lw_no (d := 69) rfl rfl (congrArg Value.bool (decide_eq_true hb90)) ?_
            refine lw_no (d := 69) rfl rfl (congrArg Value.bool (decide_eq_true hb90)) ?_
            refine lw_v (.bool true) (dv_pick_t (T rfl (congrArg Value.bool (decide_eq_true hb90))) C) ?_
            refine lw_nil ?_
            refine rk_ct (T rfl rfl) ?_
            refine rk_skip ?_
            refine rk_block ?_
            refine rk_seq ?_
            refine rk_reg ?_
            refine lw_v (.int .u64 q) (dv_move (T rfl f86)) ?_
            refine lw_v (.int .u64 (q - 1)) (dv_sub (a := q) (b := 1) (z := q - 1) (T rfl rfl) C (wn_u64 (by omega) (by omega))) ?_
            refine lw_v (.int .u64 (q - 1)) (dv_assign (T rfl rfl)) ?_
            refine lw_nil ?_
            refine rk_seq ?_
            refine rk_reg ?_
            refine lw_v (.int .u64 r) (dv_move (T rfl f87)) ?_
            refine lw_v (.int .u64 (Y / 4294967296)) (dv_move (T rfl f81)) ?_
            refine lw_v (.int .u64 (r + (Y / 4294967296))) (dv_add (a := r) (b := Y / 4294967296) (z := r + (Y / 4294967296)) (T rfl rfl) (T rfl rfl) (wn_u64 (by omega) (by omega))) ?_
            refine lw_v (.int .u64 (r + (Y / 4294967296))) (dv_assign (T rfl rfl)) ?_
            refine lw_nil ?_
            refine rk_seq ?_
            refine rk_reg ?_
            refine lw_v (.int .u64 (r + (Y / 4294967296))) (dv_move (T rfl rfl)) ?_
            refine lw_v (.bool (decide (4294967296 ≤ (r + (Y / 4294967296))))) (dv_geq (a := r + (Y / 4294967296)) (b := 4294967296) (T rfl rfl) C) ?_
            refine lw_nil ?_
            by_cases hb91 : 4294967296 ≤ (r + (Y / 4294967296))
            · -- FFFLTT
              refine rk_ct (T rfl (congrArg Value.bool (decide_eq_true hb91))) ?_
              refine rk_exit rfl ?_
              exact hj21 _ _ ⟨q - 1, f77, f78, f79, f80, f81, f82, f83, f84, f85, rfl, E88, (half_ok2 (r := r + (Y / 4294967296)) (by rw [Int.sub_mul, Int.one_mul]; omega) (by omega) (by omega) (by omega) (by omega)), (half_less hq (by omega) hUr.2 (by omega) (by omega)), (by omega)⟩
            · -- FFFLTF
              refine rk_cf (T rfl (congrArg Value.bool (decide_eq_false hb91))) ?_
              refine rk_skip ?_
              refine rk_inBlock ?_
              exact ih74 ((q - 1).toNat) _ _ (by rw [hd89]; omega) ⟨q - 1, r + (Y / 4294967296), rfl, f77, f78, f79, f80, f81, f82, f83, f84, f85, rfl, rfl, E88, (by rw [Int.sub_mul, Int.one_mul]; omega), ⟨by omega, by omega⟩, ⟨by omega, by omega⟩, (half_less hq (by omega) hUr.2 (by omega) (by omega))⟩
          · -- FFFLF
            refine lw_vy (.int .u64 q) (d := 69) rfl rfl (congrArg Value.bool (decide_eq_false hb90)) (dv_move (T rfl f86)) ?_
            refine lw_vy (.int .u64 (Y % 4294967296)) (d := 69) rfl rfl (congrArg Value.bool (decide_eq_false hb90)) (dv_move (T rfl f82)) ?_
            have hm92 := mul_pos_bd (A := 4294967295) (show 0 ≤ q by omega) (by omega) (show 0 ≤ (Y % 4294967296) by omega) (by omega)
            refine lw_vy (.int .u64 (q * (Y % 4294967296))) (d := 69) rfl rfl (congrArg Value.bool (decide_eq_false hb90)) (dv_mul (a := q) (b := Y % 4294967296) (z := q * (Y % 4294967296)) (T rfl rfl) (T rfl rfl) (wn_u64 (by omega) (by omega))) ?_
            refine lw_vy (.int .u64 r) (d := 69) rfl rfl (congrArg Value.bool (decide_eq_false hb90)) (dv_move (T rfl f87)) ?_
            refine lw_vy (.int .u64 (4294967296 * r)) (d := 69) rfl rfl (congrArg Value.bool (decide_eq_false hb90)) (dv_mul (a := 4294967296) (b := r) (z := 4294967296 * r) C (T rfl rfl) (wn_u64 (by omega) (by omega))) ?_
            refine lw_vy (.int .u64 (un / 4294967296)) (d := 69) rfl rfl (congrArg Value.bool (decide_eq_false hb90)) (dv_move (T rfl f84)) ?_
            refine lw_vy (.int .u64 ((4294967296 * r) + (un / 4294967296))) (d := 69) rfl rfl (congrArg Value.bool (decide_eq_false hb90)) (dv_add (a := 4294967296 * r) (b := un / 4294967296) (z := (4294967296 * r) + (un / 4294967296)) (T rfl rfl) (T rfl rfl) (wn_u64 (by omega) (by omega))) ?_
            refine lw_vy (.bool (decide (((4294967296 * r) + (un / 4294967296)) < (q * (Y % 4294967296))))) (d := 69) rfl rfl (congrArg Value.bool (decide_eq_false hb90)) (dv_gtr (a := q * (Y % 4294967296)) (b := (4294967296 * r) + (un / 4294967296)) (T rfl rfl) (T rfl rfl)) ?_
            refine lw_v (.bool (decide (((4294967296 * r) + (un / 4294967296)) < (q * (Y % 4294967296))))) (dv_pick_f (T rfl (congrArg Value.bool (decide_eq_false hb90))) (T rfl rfl)) ?_
            refine lw_nil ?_
            by_cases hb93 : ((4294967296 * r) + (un / 4294967296)) < (q * (Y % 4294967296))
            · -- FFFLFT
              refine rk_ct (T rfl (congrArg Value.bool (decide_eq_true hb93))) ?_
              refine rk_skip ?_
              refine rk_block ?_
              refine rk_seq ?_
              refine rk_reg ?_
              refine lw_v (.int .u64 q) (dv_move (T rfl f86)) ?_
              refine lw_v (.int .u64 (q - 1)) (dv_sub (a := q) (b := 1) (z := q - 1) (T rfl rfl) C (wn_u64 (by omega) (by omega))) ?_
              refine lw_v (.int .u64 (q - 1)) (dv_assign (T rfl rfl)) ?_
              refine lw_nil ?_
              refine rk_seq ?_
              refine rk_reg ?_
              refine lw_v (.int .u64 r) (dv_move (T rfl f87)) ?_
              refine lw_v (.int .u64 (Y / 4294967296)) (dv_move (T rfl f81)) ?_
              refine lw_v (.int .u64 (r + (Y / 4294967296))) (dv_add (a := r) (b := Y / 4294967296) (z := r + (Y / 4294967296)) (T rfl rfl) (T rfl rfl) (wn_u64 (by omega) (by omega))) ?_
              refine lw_v (.int .u64 (r + (Y / 4294967296))) (dv_assign (T rfl rfl)) ?_
              refine lw_nil ?_
              refine rk_seq ?_
              refine rk_reg ?_
              refine lw_v (.int .u64 (r + (Y / 4294967296))) (dv_move (T rfl rfl)) ?_
              refine lw_v (.bool (decide (4294967296 ≤ (r + (Y / 4294967296))))) (dv_geq (a := r + (Y / 4294967296)) (b := 4294967296) (T rfl rfl) C) ?_
              refine lw_nil ?_
              by_cases hb94 : 4294967296 ≤ (r + (Y / 4294967296))
              · -- FFFLFTT
                refine rk_ct (T rfl (congrArg Value.bool (decide_eq_true hb94))) ?_
                refine rk_exit rfl ?_
                exact hj21 _ _ ⟨q - 1, f77, f78, f79, f80, f81, f82, f83, f84, f85, rfl, E88, (half_ok2 (r := r + (Y / 4294967296)) (by rw [Int.sub_mul, Int.one_mul]; omega) (by omega) (by omega) (by omega) (by omega)), (half_less hq (by omega) hUr.2 (by omega) (by omega)), (by omega)⟩
              · -- FFFLFTF
                refine rk_cf (T rfl (congrArg Value.bool (decide_eq_false hb94))) ?_
                refine rk_skip ?_
                refine rk_inBlock ?_
                exact ih74 ((q - 1).toNat) _ _ (by rw [hd89]; omega) ⟨q - 1, r + (Y / 4294967296), rfl, f77, f78, f79, f80, f81, f82, f83, f84, f85, rfl, rfl, E88, (by rw [Int.sub_mul, Int.one_mul]; omega), ⟨by omega, by omega⟩, ⟨by omega, by omega⟩, (half_less hq (by omega) hUr.2 (by omega) (by omega))⟩
            · -- FFFLFF
              refine rk_cf (T rfl (congrArg Value.bool (decide_eq_false hb93))) ?_
              refine rk_exit rfl ?_
              exact hj21 _ _ ⟨q, f77, f78, f79, f80, f81, f82, f83, f84, f85, f86, E88, (half_ok hq (by omega)), hNq, hq0.1⟩

theorem div64_q {w : World} {hi lo y : Int} (hhi : 0 ≤ hi) (hlt : hi < y) (hyl : y < 18446744073709551616) (hlo : 0 ≤ lo ∧ lo < 18446744073709551616) : Ct Try.prog 123 [.int .u64 hi, .int .u64 lo, .int .u64 y] w fun v w1 =>
    ∃ q r : Int, v = .tuple #[.int .u64 q, .int .u64 r] ∧ Ext w w1 ∧ q * y + r = hi * 18446744073709551616 + lo ∧ (0 ≤ r ∧ r < y) ∧ (0 ≤ q ∧ q < 18446744073709551616) ∧ (q = (hi * 18446744073709551616 + lo) / y ∧ r = (hi * 18446744073709551616 + lo) % y) :=
  (div64_ok hhi hlt hyl hlo).mono fun v w1 ⟨h1, h2⟩ => by
    have e := Int.mul_ediv_add_emod (hi * 18446744073709551616 + lo) y
    have r0 := Int.emod_nonneg (hi * 18446744073709551616 + lo) (show y ≠ 0 by omega)
    have r1 := Int.emod_lt_of_pos (hi * 18446744073709551616 + lo) (show 0 < y by omega)
    have q0 : 0 ≤ (hi * 18446744073709551616 + lo) / y := Int.ediv_nonneg (by omega) (by omega)
    have q1 : (hi * 18446744073709551616 + lo) / y < 18446744073709551616 := by
      refine Int.ediv_lt_of_lt_mul (by omega) ?_
      have : (hi + 1) * 18446744073709551616 ≤ y * 18446744073709551616 := Int.mul_le_mul_of_nonneg_right (by omega) (by decide)
      omega
    exact ⟨_, _, h1, h2, by rw [Int.mul_comm _ y]; exact e, ⟨r0, r1⟩, ⟨q0, q1⟩, rfl, rfl⟩

end Go.Proofs.Ytpnjkjahfklfnaa.W
