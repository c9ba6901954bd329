/- Wk16: walks, written by a program of this session. -/
import Derived.Test.YtpnjkjahfklfnaaWk15
set_option linter.unusedVariables false
set_option linter.unusedSimpArgs false
namespace Go.Proofs.Ytpnjkjahfklfnaa.W
open Go Go.RowKit Go.Proofs.Ytpnjkjahfklfnaa.Fw
attribute [local irreducible] RunK LW AW DV OE Ct

theorem l1Trim_numA {w : World} {neg : Bool} {A : Option Addr} {l c s : Nat} {x : Int} (h : Ws 32 115 .u32 w A l c x) (hl : l ≤ 1000000) (hs : x < 2 ^ s) : Ct Try.prog 89 [.bool neg, .slice A l c] w fun v w1 =>
    ∃ nb A' n c', v = .agg #[.bool nb, .slice A' n c'] ∧ Ext w w1 ∧ Num 32 115 .u32 w1 nb A' n c' (sg neg x) s ∧ (A' = none ∨ A' = A) := by
  obtain ⟨xs, rfl, hc, hw, ho, hv⟩ := h
  refine (l1Trim_ok (neg := neg) hw hc hl).mono fun v w1 ⟨h1, h2⟩ => ?_
  have hc' := trimL_canon xs
  have hcp := canon_pos (B := 2 ^ 32) (by decide) (trimL_ok ho) hc'
  rw [trimL_val, ← hv] at hcp
  have h0 := valB_nonneg (B := 2 ^ 32) (by decide) ho
  by_cases hz : (trimL xs).length = 0
  · rw [if_pos hz] at h1
    have hx0 : x = 0 := by omega
    subst hx0
    exact ⟨_, _, _, _, h1, h2, Num.zero.to (by cases neg <;> simp [sg]) (Nat.le_refl _), .inl rfl⟩
  · rw [if_neg hz] at h1
    exact ⟨_, _, _, _, h1, h2, Wc.num ⟨trimL xs, rfl, Nat.le_trans (trimL_len xs) hc, (hw.ext h2).trim, trimL_ok ho, hc', by rw [hv, trimL_val]⟩ (fun hn => by omega) rfl hs, .inr rfl⟩
set_option maxHeartbeats 1000000 in
theorem l1DivAbs_ok {w : World} {Aa Ab : Option Addr} {la ca lb cb : Nat} {x y : Int} {sx sy : Nat} (ha : Wc 32 115 .u32 w Aa la ca x) (hb : Wc 32 115 .u32 w Ab lb cb y) (hy : 0 < y) (hxs : x < 2 ^ sx) (hys : y < 2 ^ sy) (hs : sx ≤ 200000) (hs2 : sy ≤ 200000) : Ct Try.prog 107 [.slice Aa la ca, .slice Ab lb cb] w fun v w1 => ∃ A1 n1 c1 A2 n2 c2, v = .tuple #[.slice A1 n1 c1, .slice A2 n2 c2] ∧ Ext w w1 ∧ Wc 32 115 .u32 w1 A1 n1 c1 (x / y) ∧ Wc 32 115 .u32 w1 A2 n2 c2 (x % y) := by
  refine ct_run (n := 59) Try.func107 rfl Try.ntmps107 rfl ?_
  have E0 : Below w.heap.size w w := Below.refl _ _
  have hx0 := ha.nonneg
  have lla := Wc.len (by decide) ha hxs
  have llb := Wc.len (by decide) hb hys
  have hnx : nbits x.toNat ≤ sx := nbits_le_iff.2 (by have e2 : ((2 ^ sx : Nat) : Int) = 2 ^ sx := (by simp); omega)
  have hny : nbits y.toNat ≤ sy := nbits_le_iff.2 (by have e2 : ((2 ^ sy : Nat) : Int) = 2 ^ sy := (by simp); omega)
  have hn1 := nbits_pos (x := y.toNat) (by omega)
  refine rk_seq ?_
  refine rk_reg ?_
  refine lw_v (.slice none 0 0) (dv_assign C) ?_
  refine lw_v (.slice none 0 0) (dv_assign C) ?_
  refine lw_nil ?_
  refine rk_seq ?_
  refine rk_reg ?_
  refine lw_v (.slice Aa la ca) (dv_move (T rfl rfl)) ?_
  refine lw_e (oe_callf (vs := [.slice Aa la ca]) co106 (ar1 (T rfl rfl)) (l1Bits_wc ha (by first | omega | (simp; done) | (simp; omega))) ?_)
  rintro _ w1 ⟨rfl, e2⟩
  have E3 := below_ext E0 E0.size e2
  refine lw_v (.slice Ab lb cb) (dv_move (T rfl rfl)) ?_
  have h4 := (hb.ext e2)
  refine lw_e (oe_callf (vs := [.slice Ab lb cb]) co106 (ar1 (T rfl rfl)) (l1Bits_wc h4 (by first | omega | (simp; done) | (simp; omega))) ?_)
  rintro _ w5 ⟨rfl, e6⟩
  have E7 := below_ext E3 E3.size e6
  refine lw_v (.int .i64 (((nbits (x).toNat : Int)) - ((nbits (y).toNat : Int)))) (dv_sub (a := (nbits (x).toNat : Int)) (b := (nbits (y).toNat : Int)) (z := ((nbits (x).toNat : Int)) - ((nbits (y).toNat : Int))) (T rfl rfl) (T rfl rfl) (wr_i64 (by omega) (by omega))) ?_
  refine lw_v (.int .i64 (((nbits (x).toNat : Int)) - ((nbits (y).toNat : Int)))) (dv_assign (T rfl rfl)) ?_
  refine lw_nil ?_
  refine rk_seq ?_
  refine rk_seq ?_
  refine rk_reg ?_
  refine lw_v (.int .i64 (((nbits (x).toNat : Int)) - ((nbits (y).toNat : Int)))) (dv_move (T rfl rfl)) ?_
  refine lw_v (.bool (decide ((((nbits (x).toNat : Int)) - ((nbits (y).toNat : Int))) < 0))) (dv_lss (a := ((nbits (x).toNat : Int)) - ((nbits (y).toNat : Int))) (b := 0) (T rfl rfl) C) ?_
  refine lw_nil ?_
  by_cases hb8 : (((nbits (x).toNat : Int)) - ((nbits (y).toNat : Int))) < 0
  · -- T
    refine rk_ct (T rfl (congrArg Value.bool (decide_eq_true hb8))) ?_
    refine rk_seq ?_
    refine rk_reg ?_
    refine lw_v (.slice Aa la ca) (dv_move (T rfl rfl)) ?_
    refine lw_v (.slice none 0 0) (dv_assign C) ?_
    refine lw_v (.slice Aa la ca) (dv_assign (T rfl rfl)) ?_
    refine lw_nil ?_
    refine rk_ret Try.func107 (v := .tuple #[.slice none 0 0, .slice Aa la ca]) (res2 Try.results107 (rv_tmp rfl rfl) (rv_tmp rfl rfl)) ⟨_, rfl, ?_⟩
    have hlt : x.toNat < y.toNat := nbits_mono_lt (by omega)
    have hq0 := Int.ediv_eq_zero_of_lt (a := x) (b := y) hx0 (by omega)
    have hr0 := Int.emod_eq_of_lt (a := x) (b := y) hx0 (by omega)
    have h9 := ((ha.ext e2).ext e6)
    exact ⟨_, _, _, _, _, _, rfl, E7, Wc.zero.eq hq0.symm, h9.eq hr0.symm⟩
  · -- F
    refine rk_cf (T rfl (congrArg Value.bool (decide_eq_false hb8))) ?_
    refine rk_skip ?_
    refine rk_seq ?_
    obtain ⟨m, hm⟩ := Int.eq_ofNat_of_zero_le (show 0 ≤ ((nbits (x).toNat : Int)) - ((nbits (y).toNat : Int)) by omega)
    have hmb : m ≤ sx := by omega
    have hbs := bits_start (a := x.toNat) (b := y.toNat) (n := m) (by omega) (by omega)
    rw [Int.toNat_of_nonneg hx0, Int.toNat_of_nonneg (Int.le_of_lt hy)] at hbs
    have hleny := Wc.len (by decide) hb hys
    have hlenx := Wc.len (by decide) ha hxs
    refine rk_reg ?_
    refine lw_v (.int .i64 ((m : Int))) (dv_move (T rfl (vi hm))) ?_
    refine lw_v (.int .i64 (((m : Int)) / 32)) (dv_quo (a := (m : Int)) (b := 32) (z := ((m : Int)) / 32) (T rfl rfl) C (by decide) (quo_c (by omega) (by decide) (wr_i64 (by omega) (by omega)))) ?_
    refine lw_v (.int .i64 ((((m : Int)) / 32) + 1)) (dv_add (a := ((m : Int)) / 32) (b := 1) (z := (((m : Int)) / 32) + 1) (T rfl rfl) C (wr_i64 (by omega) (by omega))) ?_
    refine lw_e (oe_makeW (l := (((m) / 32) + 1)) (j := (((m : Int)) / 32) + 1) us60 in115 (T rfl rfl) (T rfl rfl) (by omega) (by first | omega | (simp; done) | (simp; omega)) (by first | omega | (simp; done) | (simp; omega)) ?_)
    intro b10 w11 n12
    have N13 : w.heap.size ≤ b10 := n12.eq ▸ E7.size
    have E14 := below_ext E7 E7.size n12.ext
    refine lw_v (.slice (some ⟨b10, 0, none⟩) ((((m) / 32) + 1)) ((((m) / 32) + 1))) (dv_assign (T rfl rfl)) ?_
    refine lw_nil ?_
    refine rk_seq ?_
    refine rk_reg ?_
    refine lw_v (.slice Aa la ca) (dv_move (T rfl rfl)) ?_
    refine lw_v (.slice Aa la ca) (dv_assign (T rfl rfl)) ?_
    refine lw_nil ?_
    refine rk_seq ?_
    refine rk_seq ?_
    refine rk_reg ?_
    refine lw_v (.int .i64 ((m : Int))) (dv_move (T rfl (vi hm))) ?_
    refine lw_v (.int .i64 ((m : Int))) (dv_assign (T rfl rfl)) ?_
    refine lw_nil ?_
    refine rk_block ?_
    have h15 := (((ha.ext e2).ext e6).ext n12.ext)
    refine rk_loop (fun dm_ fr wl => ∃ (I : Nat) (Q : List Int) (Ar : Option Addr) (lr cr : Nat) (R : Int), dm_ = I ∧ fr 1 = .slice Ab lb cb ∧ fr 4 = .slice none 0 0 ∧ fr 5 = .slice none 0 0 ∧ fr 7 = .slice (some ⟨b10, 0, none⟩) ((((m) / 32) + 1)) ((((m) / 32) + 1)) ∧ fr 8 = .slice Ar lr cr ∧ fr 9 = .int .i64 ((I : Int) - 1) ∧ Below w.heap.size w wl ∧ wl.heap[b10]? = some (.cells (Q.map (Value.int .u32)).toArray 115) ∧ Wc 32 115 .u32 wl Ar lr cr R ∧ (I ≤ m + 1) ∧ (Q.length = m / 32 + 1) ∧ (okW (2 ^ 32) Q) ∧ ((2 : Int) ^ I ∣ valB (2 ^ 32) Q) ∧ (R + y * valB (2 ^ 32) Q = x) ∧ (R < y * 2 ^ I) ∧ (R ≤ x)) (((m + 1))) ⟨(m + 1), (List.replicate ((((m) / 32) + 1)) (0 : Int)), Aa, la, ca, x, rfl, rfl, rfl, rfl, rfl, rfl, (vi (by omega)), E14, n12.blk, h15, (Nat.le_refl _), (by simp), (okW.replicate (by decide) _), (by rw [valB_zeros]; exact Int.dvd_zero _), (by rw [valB_zeros, Int.mul_zero, Int.add_zero]), hbs, (Int.le_refl _)⟩ ?_
    intro d20 fr19 w16 hI17 ih18
    obtain ⟨I, Q, Ar, lr, cr, R, hd30, f21, f22, f23, f24, f25, f26, E27, H28, h29, hI, hQl, hQo, hd, hR, hlt, hRx⟩ := hI17
    have hR0 := h29.nonneg
    have hlr := Wc.len (by decide) h29 (show R < 2 ^ sx by omega)
    have hp := two_pos ((I - 1) % 32)
    have hp2 : (2 : Int) ^ ((I - 1) % 32) ≤ 2 ^ 31 := pow_le_of (by decide) (by omega)
    have bQ := okW.getD hQo (by decide) ((I - 1) / 32)
    have hbz : 1 ≤ I → Q.getD ((I - 1) / 32) 0 % 2 ^ (((I - 1) % 32) + 1) = 0 := fun h => bit_zero hQo (by rw [show I - 1 + 1 = I by omega]; exact hd)
    have hp3 : (2 : Int) ^ (((I - 1) % 32) + 1) = 2 * 2 ^ ((I - 1) % 32) := by rw [Int.pow_succ]; omega
    refine rk_seq ?_
    refine rk_seq ?_
    refine rk_reg ?_
    refine lw_v (.int .i64 ((I : Int) - 1)) (dv_move (T rfl f26)) ?_
    refine lw_v (.bool (decide (0 ≤ ((I : Int) - 1)))) (dv_geq (a := (I : Int) - 1) (b := 0) (T rfl rfl) C) ?_
    refine lw_nil ?_
    by_cases hb31 : 0 ≤ ((I : Int) - 1)
    · -- FLT
      refine rk_ct (T rfl (congrArg Value.bool (decide_eq_true hb31))) ?_
      refine rk_skip ?_
      refine rk_seq ?_
      refine rk_block ?_
      refine rk_seq ?_
      refine rk_reg ?_
      refine lw_v (.slice Ab lb cb) (dv_move (T rfl f21)) ?_
      refine lw_v (.int .i64 ((I : Int) - 1)) (dv_move (T rfl f26)) ?_
      have h32 := (hb.ext E27)
      refine lw_e (oe_callf (vs := [.slice Ab lb cb, .int .i64 ((I : Int) - 1)]) co91 (ar2 (T rfl rfl) (T rfl rfl)) (l1Left_ws (N := (I - 1)) (j := (I : Int) - 1) h32.ws (by first | omega | (simp; done) | (simp; omega)) (by first | omega | (simp; done) | (simp; omega)) hys (by omega)) ?_)
      rintro _ w37 ⟨A33, n34, c35, rfl, e38, h36⟩
      have E39 := below_ext E27 E27.size e38
      have lh36 := Wc.len (by decide) h36 (left_sz (m := (I - 1)) (s := sy) rfl hys)
      refine lw_v (.slice A33 n34 c35) (dv_assign (T rfl rfl)) ?_
      refine lw_nil ?_
      refine rk_seq ?_
      refine rk_reg ?_
      refine lw_v (.slice Ar lr cr) (dv_move (T rfl f25)) ?_
      refine lw_v (.slice A33 n34 c35) (dv_move (T rfl rfl)) ?_
      have h40 := (h29.ext e38)
      refine lw_e (oe_callf (vs := [.slice Ar lr cr, .slice A33 n34 c35]) co116 (ar2 (T rfl rfl) (T rfl rfl)) (l1CmpAbs_wc h40 h36 (by first | omega | (simp; done) | (simp; omega)) (by first | omega | (simp; done) | (simp; omega))) ?_)
      rintro _ w43 ⟨r41, rfl, e44, hr42⟩
      have E45 := below_ext E39 E39.size e44
      have qhr42 := cmpR.ge hr42
      have phr42 := cmpR.eq hr42
      have ohr42 := cmpR.gt hr42
      refine lw_v (.bool (decide (0 ≤ r41))) (dv_geq (a := r41) (b := 0) (T rfl rfl) C) ?_
      refine lw_nil ?_
      by_cases hb46 : 0 ≤ r41
      · -- FLTT
        refine rk_ct (T rfl (congrArg Value.bool (decide_eq_true hb46))) ?_
        refine rk_seq ?_
        have H47 := (e44.blk (e38.blk H28))
        have hbq : b10 < w43.heap.size := lt_of_blk H47
        refine rk_reg ?_
        refine lw_v (.slice Ar lr cr) (dv_move (T rfl f25)) ?_
        refine lw_v (.slice A33 n34 c35) (dv_move (T rfl rfl)) ?_
        have h48 := (h40.ext e44)
        have h49 := (h36.ext e44)
        refine lw_e (oe_callf (vs := [.slice Ar lr cr, .slice A33 n34 c35]) co90 (ar2 (T rfl rfl) (T rfl rfl)) (l1SubAbs_ws h48.ws h49.ws (by first | omega | (simp; done) | (simp; omega)) (by first | omega | (simp; done) | (simp; omega)) (by exact len_le32 h48 h49 (by omega)) (by omega)) ?_)
        rintro _ w54 ⟨A50, n51, c52, rfl, e55, h53, hnh53⟩
        have E56 := below_ext E45 E45.size e55
        refine lw_e (oe_callf (vs := [.bool false, .slice A50 n51 c52]) co89 (ar2 C (T rfl rfl)) (l1Trim_numA (s := sx) (neg := false) h53 (by first | omega | (simp; done) | (simp; omega)) (sz_sub (show R < 2 ^ sx by omega) (Wc.nonneg h49))) ?_)
        rintro _ w64 ⟨nb57, A58, n59, c60, rfl, e65, hn61, hal62⟩
        have E66 := below_ext E56 E56.size e65
        have hfr63 : ∀ (g o : Nat), A58 = some ⟨g, o, none⟩ → w43.heap.size ≤ g := by
          intro g o h
          rcases hal62 with h2 | h2
          · rw [h2] at h; cases h
          · exact hnh53.2 g o (h2 ▸ h)
        have lhn61 := Num.len (by decide) hn61
        refine lw_v (.slice A58 n59 c60) (dv_field (v := .slice A58 n59 c60) fb62_1 agt60 (T rfl rfl) rfl) ?_
        refine lw_v (.slice A58 n59 c60) (dv_assign (T rfl rfl)) ?_
        refine lw_nil ?_
        refine rk_reg ?_
        refine lw_v (.slice (some ⟨b10, 0, none⟩) ((((m) / 32) + 1)) ((((m) / 32) + 1))) (dv_move (T rfl f24)) ?_
        refine lw_v (.int .i64 ((I : Int) - 1)) (dv_move (T rfl f26)) ?_
        refine lw_v (.int .i64 (((I : Int) - 1) / 32)) (dv_quo (a := (I : Int) - 1) (b := 32) (z := ((I : Int) - 1) / 32) (T rfl rfl) C (by decide) (quo_c (by omega) (by decide) (wr_i64 (by omega) (by omega)))) ?_
        refine lw_v (.slice (some ⟨b10, 0, none⟩) ((((m) / 32) + 1)) ((((m) / 32) + 1))) (dv_move (T rfl f24)) ?_
        refine lw_v (.int .i64 ((I : Int) - 1)) (dv_move (T rfl f26)) ?_
        refine lw_v (.int .i64 (((I : Int) - 1) / 32)) (dv_quo (a := (I : Int) - 1) (b := 32) (z := ((I : Int) - 1) / 32) (T rfl rfl) C (by decide) (quo_c (by omega) (by decide) (wr_i64 (by omega) (by omega)))) ?_
        refine lw_v (.pointer (some ⟨b10, (((I - 1) / 32)), none⟩)) (dv_indexO (g := b10) (l := (((m) / 32) + 1)) (c := (((m) / 32) + 1)) (i := ((I - 1) / 32)) (j := ((I : Int) - 1) / 32) us60 sz115 (T rfl rfl) (T rfl rfl) (by omega) (by first | omega | (simp; done) | (simp; omega))) ?_
        have H67 := (e65.blk (e55.blk H47))
        refine lw_v (.int .u32 (Q.getD (((I - 1) / 32)) 0)) (dv_loadW (L := Q) (v := Q.getD (((I - 1) / 32)) 0) agt115 (T rfl rfl) H67 (by first | omega | (simp; done) | (simp; omega)) rfl) ?_
        refine lw_v (.int .i64 ((I : Int) - 1)) (dv_move (T rfl f26)) ?_
        refine lw_v (.int .i64 (((I : Int) - 1) % 32)) (dv_rem (a := (I : Int) - 1) (b := 32) (z := ((I : Int) - 1) % 32) (T rfl rfl) C (by decide) (rem_c (by omega) rfl)) ?_
        refine lw_v (.int .u64 (((I : Int) - 1) % 32)) (dv_conv (a := ((I : Int) - 1) % 32) (z := ((I : Int) - 1) % 32) ui2 ui114 (T rfl rfl) (wn_u64 (by omega) (by omega))) ?_
        refine lw_v (.int .u32 (1 * 2 ^ (((I - 1) % 32)))) (dv_shl (a := 1) (b := ((I : Int) - 1) % 32) (z := 1 * 2 ^ (((I - 1) % 32))) C (T rfl rfl) (by omega) (shl_w (K := ((I - 1) % 32)) (by omega) (show _ ≤ 32 by omega) (wn_u32 (by omega) (by omega)))) ?_
        refine lw_v (.int .u32 ((Q.getD (((I - 1) / 32)) 0) + (1 * 2 ^ (((I - 1) % 32))))) (dv_or (a := Q.getD (((I - 1) / 32)) 0) (b := 1 * 2 ^ (((I - 1) % 32))) (z := (Q.getD (((I - 1) / 32)) 0) + (1 * 2 ^ (((I - 1) % 32)))) (T rfl rfl) (T rfl rfl) ((or_add (k := .u32) (a := 1 * 2 ^ (((I - 1) % 32))) (b := Q.getD (((I - 1) / 32)) 0) (i := ((I - 1) % 32) + 1) rfl (by omega) (by omega) bQ.1 (hbz (by omega)) (lt32 (by omega)) (lt32 (by omega))).2.trans (Int.add_comm _ _))) ?_
        refine lw_v (.pointer (some ⟨b10, (((I - 1) / 32)), none⟩)) (dv_indexO (g := b10) (l := (((m) / 32) + 1)) (c := (((m) / 32) + 1)) (i := ((I - 1) / 32)) (j := ((I : Int) - 1) / 32) us60 sz115 (T rfl rfl) (T rfl rfl) (by omega) (by first | omega | (simp; done) | (simp; omega))) ?_
        refine lw_e (oe_storeW (L := Q) (i := ((I - 1) / 32)) (z := (Q.getD (((I - 1) / 32)) 0) + (1 * 2 ^ (((I - 1) % 32)))) sz115 (T rfl rfl) (T rfl rfl) H67 (by first | omega | (simp; done) | (simp; omega)) ?_)
        intro w68 s69 H70
        have E71 := below_st E66 N13 s69
        refine lw_nil ?_
        refine rk_inBlock ?_
        refine rk_reg ?_
        refine lw_v (.int .i64 ((I : Int) - 1)) (dv_move (T rfl f26)) ?_
        refine lw_v (.int .i64 (((I : Int) - 1) - 1)) (dv_sub (a := (I : Int) - 1) (b := 1) (z := ((I : Int) - 1) - 1) (T rfl rfl) C (wr_i64 (by omega) (by omega))) ?_
        refine lw_v (.int .i64 (((I : Int) - 1) - 1)) (dv_assign (T rfl rfl)) ?_
        refine lw_nil ?_
        have h72 := (hn61.stO s69 (fun g o h => by have := (hfr63) g o h; omega))
        have hpy : 0 ≤ 2 ^ (I - 1) * y := Int.mul_nonneg (Int.le_of_lt (two_pos _)) (Int.le_of_lt hy)
        exact ih18 (((I - 1))) _ _ (by rw [hd30]; omega) ⟨(I - 1), (Q.set (((I - 1) / 32)) ((Q.getD (((I - 1) / 32)) 0) + (1 * 2 ^ (((I - 1) % 32))))), A58, n59, c60, (R - 2 ^ (I - 1) * y), rfl, f21, f22, f23, f24, rfl, (vi (by omega)), E71, H70, (Wc.eq h72.wc (sg_natAbs (by omega))), (by omega), (by simp [hQl]), (okW.set hQo (by omega) (by rw [Int.one_mul]; exact bit_room bQ.1 bQ.2 (hbz (by omega)) (by omega)) _), (by rw [Int.one_mul]; exact bit_dvd (by omega) (by rw [show I - 1 + 1 = I by omega]; exact hd)), (by rw [Int.one_mul]; exact bit_set (by omega) hR), (bit_lt (by rw [show I - 1 + 1 = I by omega]; exact hlt)), (by omega)⟩
      · -- FLTF
        refine rk_cf (T rfl (congrArg Value.bool (decide_eq_false hb46))) ?_
        refine rk_skip ?_
        refine rk_inBlock ?_
        refine rk_reg ?_
        refine lw_v (.int .i64 ((I : Int) - 1)) (dv_move (T rfl f26)) ?_
        refine lw_v (.int .i64 (((I : Int) - 1) - 1)) (dv_sub (a := (I : Int) - 1) (b := 1) (z := ((I : Int) - 1) - 1) (T rfl rfl) C (wr_i64 (by omega) (by omega))) ?_
        refine lw_v (.int .i64 (((I : Int) - 1) - 1)) (dv_assign (T rfl rfl)) ?_
        refine lw_nil ?_
        have h73 := (h40.ext e44)
        have H74 := (e44.blk (e38.blk H28))
        exact ih18 (((I - 1))) _ _ (by rw [hd30]; omega) ⟨(I - 1), Q, Ar, lr, cr, R, rfl, f21, f22, f23, f24, f25, (vi (by omega)), E45, H74, h73, (by omega), hQl, hQo, (bit_dvd0 (by rw [show I - 1 + 1 = I by omega]; exact hd)), hR, (by rw [Int.mul_comm y]; omega), hRx⟩
    · -- FLF
      refine rk_cf (T rfl (congrArg Value.bool (decide_eq_false hb31))) ?_
      refine rk_exit rfl ?_
      refine rk_seq ?_
      refine rk_reg ?_
      refine lw_v (.slice (some ⟨b10, 0, none⟩) ((((m) / 32) + 1)) ((((m) / 32) + 1))) (dv_move (T rfl f24)) ?_
      refine lw_e (oe_callf (vs := [.bool false, .slice (some ⟨b10, 0, none⟩) ((((m) / 32) + 1)) ((((m) / 32) + 1))]) co89 (ar2 C (T rfl rfl)) (l1Trim_numA (s := (32 * ((((m) / 32) + 1)))) (neg := false) (⟨Q, (by first | (simp; done) | (simp; omega) | omega), (by first | (simp; done) | (simp; omega) | omega), Wd.ownW H28, hQo, rfl⟩ : Ws _ _ _ _ _ _ _ _) (by first | omega | (simp; done) | (simp; omega)) (valB_sz hQo (by first | (simp; done) | (simp; omega) | omega))) ?_)
      rintro _ w81 ⟨nb75, A76, n77, c78, rfl, e82, hn79, hal80⟩
      have E83 := below_ext E27 E27.size e82
      have lhn79 := Num.len (by decide) hn79
      refine lw_v (.slice A76 n77 c78) (dv_field (v := .slice A76 n77 c78) fb62_1 agt60 (T rfl rfl) rfl) ?_
      refine lw_v (.slice Ar lr cr) (dv_move (T rfl f25)) ?_
      refine lw_v (.slice A76 n77 c78) (dv_assign (T rfl rfl)) ?_
      refine lw_v (.slice Ar lr cr) (dv_assign (T rfl rfl)) ?_
      refine lw_nil ?_
      refine rk_ret Try.func107 (v := .tuple #[.slice A76 n77 c78, .slice Ar lr cr]) (res2 Try.results107 (rv_tmp rfl rfl) (rv_tmp rfl rfl)) ⟨_, rfl, ?_⟩
      have hI0 : I = 0 := by omega
      rw [hI0, Int.pow_zero, Int.mul_one] at hlt
      have hdv := div_of hR hR0 hlt
      have h84 := (h29.ext e82)
      exact ⟨_, _, _, _, _, _, rfl, E83, Wc.eq hn79.wc (by rw [sg_natAbs (valB_nonneg (by decide) hQo)]; exact hdv.1), Wc.eq h84 hdv.2⟩

end Go.Proofs.Ytpnjkjahfklfnaa.W
