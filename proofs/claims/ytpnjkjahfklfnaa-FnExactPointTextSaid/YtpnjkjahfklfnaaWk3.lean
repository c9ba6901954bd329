/- Wk3: walks, written by a program of this session. -/
import Derived.Test.YtpnjkjahfklfnaaWk2
set_option linter.unusedVariables false
set_option linter.unusedSimpArgs false
namespace Go.Proofs.Ytpnjkjahfklfnaa.W
open Go Go.RowKit Go.Proofs.Ytpnjkjahfklfnaa.Fw
attribute [local irreducible] RunK LW AW DV OE Ct
theorem agt115 : aggB Try.prog 115 = some false := by kernel_rfl
theorem agt60 : aggB Try.prog 60 = some false := by kernel_rfl
theorem agt62 : aggB Try.prog 62 = some true := by kernel_rfl
theorem co89 : callOk Try.prog 89 = true := by kernel_rfl
theorem co90 : callOk Try.prog 90 = true := by kernel_rfl
theorem co91 : callOk Try.prog 91 = true := by kernel_rfl
theorem fb62_1 : fieldB Try.prog 62 1 = some (1, 60) := by kernel_rfl
theorem fo62_0 : fieldOffB Try.prog 62 0 = some 0 := by kernel_rfl
theorem fo62_1 : fieldOffB Try.prog 62 1 = some 1 := by kernel_rfl
theorem in115 : (Try.prog.info? 115).map (fun i => (i.zero, i.size, i.bytes)) = some (some (.int .u32 0), 1, 4) := by kernel_rfl
theorem pl62 : placesB Try.prog 62 = some [(0, 1), (1, 1)] := by kernel_rfl
theorem sz115 : sizeB Try.prog 115 = some 1 := by kernel_rfl
theorem sz62 : sizeB Try.prog 62 = some 2 := by kernel_rfl
theorem ui114 : Try.prog.underlying 114 = some (.int .u64) := by kernel_rfl
theorem ui115 : Try.prog.underlying 115 = some (.int .u32) := by kernel_rfl
theorem us60 : Try.prog.underlying 60 = some (.slice 115) := by kernel_rfl
theorem zc115 : zcB Try.prog 115 = some [.int .u32 0] := by kernel_rfl
theorem zc62 : zcB Try.prog 62 = some [.bool false, .slice none 0 0] := by kernel_rfl
theorem ze62 : zeroB Try.prog 62 = some #[.bool false, .slice none 0 0] := by kernel_rfl
set_option maxHeartbeats 1000000 in
theorem l1Trim_ok {w : World} {neg : Bool} {A : Option Addr} {c : Nat} {xs : List Int} (hx : Wd w 115 .u32 A xs) (hc : xs.length ≤ c) (hL : xs.length ≤ 1000000) : Ct Try.prog 89 [.bool neg, .slice A (xs.length) c] w fun v w1 => v = (if (trimL xs).length = 0 then .agg #[.bool false, .slice none 0 0] else .agg #[.bool neg, .slice A (trimL xs).length c]) ∧ Ext w w1 := by
  refine ct_run (n := 28) Try.func89 rfl Try.ntmps89 rfl ?_
  have E0 : Below w.heap.size w w := Below.refl _ _
  refine rk_seq ?_
  refine rk_reg ?_
  refine lw_e (oe_alloc ze62 ?_)
  intro b1 w2 n3
  have N4 : w.heap.size ≤ b1 := n3.eq ▸ E0.size
  have E5 := below_ext E0 E0.size n3.ext
  refine lw_nil ?_
  refine rk_seq ?_
  refine rk_reg ?_
  refine lw_v (.slice A (xs.length) c) (dv_move (T rfl rfl)) ?_
  refine lw_v (.int .i64 ((xs.length : Int))) (dv_len (ad := A) (l := xs.length) (c := c) us60 (T rfl rfl)) ?_
  refine lw_v (.int .i64 ((xs.length : Int))) (dv_assign (T rfl rfl)) ?_
  refine lw_nil ?_
  refine rk_seq ?_
  refine rk_block ?_
  refine rk_loop (fun dm_ fr wl => ∃ (n : Nat), dm_ = n ∧ fr 0 = .bool neg ∧ fr 1 = .slice A (xs.length) c ∧ fr 4 = .pointer (some ⟨b1, 0, none⟩) ∧ fr 5 = .int .i64 ((n : Int)) ∧ Below w.heap.size w wl ∧ wl.heap[b1]? = some (.cells #[.bool false, .slice none 0 0] 62) ∧ (n ≤ xs.length) ∧ (trimL (xs.take n) = trimL xs)) (xs.length) ⟨xs.length, rfl, rfl, rfl, rfl, (vi (by omega)), E5, n3.blk, (Nat.le_refl _), (by rw [List.take_of_length_le (Nat.le_refl _)])⟩ ?_
  intro d10 fr9 w6 hI7 ih8
  obtain ⟨n, hd17, f11, f12, f13, f14, E15, H16, hn, ht⟩ := hI7
  refine rk_seq ?_
  refine rk_seq ?_
  refine rk_reg ?_
  refine lw_v (.int .i64 ((n : Int))) (dv_move (T rfl f14)) ?_
  refine lw_v (.bool (decide (0 < ((n : Int))))) (dv_gtr (a := (n : Int)) (b := 0) (T rfl rfl) C) ?_
  refine lw_v (.bool (decide (0 < ((n : Int))))) (dv_move (T rfl rfl)) ?_
  by_cases hb18 : 0 < ((n : Int))
  · -- LT
    refine lw_vy (.slice A (xs.length) c) (d := 10) rfl rfl (congrArg Value.bool (decide_eq_true hb18)) (dv_move (T rfl f12)) ?_
    refine lw_vy (.int .i64 ((n : Int))) (d := 10) rfl rfl (congrArg Value.bool (decide_eq_true hb18)) (dv_move (T rfl f14)) ?_
    refine lw_vy (.int .i64 (((n : Int)) - 1)) (d := 10) rfl rfl (congrArg Value.bool (decide_eq_true hb18)) (dv_sub (a := (n : Int)) (b := 1) (z := ((n : Int)) - 1) (T rfl rfl) C (wr_i64 (by omega) (by omega))) ?_
    have h19 := (hx.ext E15)
    obtain ⟨g20, o21, rfl⟩ := Wd.at h19 (by first | omega | (simp; done) | (simp; omega))
    refine lw_vy (.pointer (some ⟨g20, o21 + ((n) - 1), none⟩)) (d := 10) rfl rfl (congrArg Value.bool (decide_eq_true hb18)) (dv_indexW (g := g20) (o := o21) (l := xs.length) (c := c) (i := ((n) - 1)) (j := ((n : Int)) - 1) us60 sz115 (T rfl rfl) (T rfl rfl) (by omega) (by first | omega | (simp; done) | (simp; omega))) ?_
    refine lw_vy (.int .u32 (xs.getD (((n) - 1)) 0)) (d := 10) rfl rfl (congrArg Value.bool (decide_eq_true hb18)) (dv_load agt115 (T rfl rfl) (Wd.cell h19 (by first | omega | (simp; done) | (simp; omega)))) ?_
    refine lw_vy (.bool (decide ((xs.getD (((n) - 1)) 0) = 0))) (d := 10) rfl rfl (congrArg Value.bool (decide_eq_true hb18)) (dv_eql (a := xs.getD (((n) - 1)) 0) (b := 0) (T rfl rfl) C) ?_
    refine lw_v (.bool (decide ((xs.getD (((n) - 1)) 0) = 0))) (dv_pick_t (T rfl (congrArg Value.bool (decide_eq_true hb18))) (T rfl rfl)) ?_
    refine lw_nil ?_
    by_cases hb22 : (xs.getD (((n) - 1)) 0) = 0
    · -- LTT
      refine rk_ct (T rfl (congrArg Value.bool (decide_eq_true hb22))) ?_
      refine rk_skip ?_
      refine rk_block ?_
      refine rk_reg ?_
      refine lw_v (.int .i64 ((n : Int))) (dv_move (T rfl f14)) ?_
      refine lw_v (.int .i64 (((n : Int)) - 1)) (dv_sub (a := (n : Int)) (b := 1) (z := ((n : Int)) - 1) (T rfl rfl) C (wr_i64 (by omega) (by omega))) ?_
      refine lw_v (.int .i64 (((n : Int)) - 1)) (dv_assign (T rfl rfl)) ?_
      refine lw_nil ?_
      refine rk_inBlock ?_
      exact ih8 (((n - 1))) _ _ (by rw [hd17]; omega) ⟨(n - 1), rfl, f11, f12, f13, (vi (by omega)), E15, H16, (by omega), (by rw [← ht, trim_less xs n (by omega) hn (by rw [getD_take _ _ _ (by omega)]; first | assumption | simpa using ‹_›)])⟩
    · -- LTF
      refine rk_cf (T rfl (congrArg Value.bool (decide_eq_false hb22))) ?_
      refine rk_exit rfl ?_
      refine rk_seq ?_
      refine rk_seq ?_
      refine rk_reg ?_
      refine lw_v (.int .i64 ((n : Int))) (dv_move (T rfl f14)) ?_
      refine lw_v (.bool (decide (((n : Int)) = 0))) (dv_eql (a := (n : Int)) (b := 0) (T rfl rfl) C) ?_
      refine lw_nil ?_
      by_cases hb23 : ((n : Int)) = 0
      · -- LTFT
        refine rk_ct (T rfl (congrArg Value.bool (decide_eq_true hb23))) ?_
        refine rk_seq ?_
        refine rk_reg ?_
        refine lw_v (.agg #[.bool false, .slice none 0 0]) (dv_build (pv := []) (l := [.bool false, .slice none 0 0]) zc62 pl62 trivial rfl) ?_
        refine lw_e (oe_store (v := .agg #[.bool false, .slice none 0 0]) (vs := [.bool false, .slice none 0 0]) (l := [.bool false, .slice none 0 0]) (T rfl f13) (T rfl rfl) sz62 rfl rfl rfl H16 rfl ?_)
        intro w24 s25 H26
        have E27 := below_st E15 N4 s25
        refine lw_nil ?_
        refine rk_ret Try.func89 (v := .agg #[.bool false, .slice none 0 0]) (res1 Try.results89 (rv_cells (l := [.bool false, .slice none 0 0]) agt62 sz62 rfl f13 H26 rfl)) ⟨_, rfl, ?_⟩
        have hl := trim_done xs n hn ht (by rw [getD_take_or]; omega)
        exact ⟨by rw [hl]; rw [if_pos (by omega)], E27⟩
      · -- LTFF
        refine rk_cf (T rfl (congrArg Value.bool (decide_eq_false hb23))) ?_
        refine rk_skip ?_
        refine rk_seq ?_
        refine rk_reg ?_
        refine lw_v (.bool neg) (dv_move (T rfl f11)) ?_
        refine lw_v (.slice (some ⟨g20, o21, none⟩) (xs.length) c) (dv_move (T rfl f12)) ?_
        refine lw_v (.int .i64 ((n : Int))) (dv_move (T rfl f14)) ?_
        refine lw_v (.slice (some ⟨g20, o21, none⟩) n c) (dv_sliceH (ad := (some ⟨g20, o21, none⟩)) (l := xs.length) (c := c) (i := n) (j := (n : Int)) us60 sz115 (T rfl rfl) (T rfl rfl) (by omega) (by first | omega | (simp; done) | (simp; omega))) ?_
        refine lw_v (.agg #[.bool neg, .slice (some ⟨g20, o21, none⟩) n c]) (dv_build (pv := [(0, .bool neg), (1, .slice (some ⟨g20, o21, none⟩) n c)]) (l := [.bool neg, .slice (some ⟨g20, o21, none⟩) n c]) zc62 pl62 ⟨rfl, (T rfl rfl), ⟨rfl, (T rfl rfl), trivial⟩⟩ rfl) ?_
        refine lw_e (oe_store (v := .agg #[.bool neg, .slice (some ⟨g20, o21, none⟩) n c]) (vs := [.bool neg, .slice (some ⟨g20, o21, none⟩) n c]) (l := [.bool neg, .slice (some ⟨g20, o21, none⟩) n c]) (T rfl f13) (T rfl rfl) sz62 rfl rfl rfl H16 rfl ?_)
        intro w28 s29 H30
        have E31 := below_st E15 N4 s29
        refine lw_nil ?_
        refine rk_ret Try.func89 (v := .agg #[.bool neg, .slice (some ⟨g20, o21, none⟩) n c]) (res1 Try.results89 (rv_cells (l := [.bool neg, .slice (some ⟨g20, o21, none⟩) n c]) agt62 sz62 rfl f13 H30 rfl)) ⟨_, rfl, ?_⟩
        have hl := trim_done xs n hn ht (by rw [getD_take_or]; omega)
        exact ⟨by rw [hl]; rw [if_neg (by omega)], E31⟩
  · -- LF
    refine lw_no (d := 10) rfl rfl (congrArg Value.bool (decide_eq_false hb18)) ?_
    refine lw_no (d := 10) rfl rfl (congrArg Value.bool (decide_eq_false hb18)) ?_
    refine lw_no (d := 10) rfl rfl (congrArg Value.bool (decide_eq_false hb18)) ?_
    refine lw_no (d := 10) rfl rfl (congrArg Value.bool (decide_eq_false hb18)) ?_
    refine lw_no (d := 10) rfl rfl (congrArg Value.bool (decide_eq_false hb18)) ?_
    refine lw_no (d := 10) rfl rfl (congrArg Value.bool (decide_eq_false hb18)) ?_
    refine lw_v (.bool false) (dv_pick_f (T rfl (congrArg Value.bool (decide_eq_false hb18))) C) ?_
    refine lw_nil ?_
    refine rk_cf (T rfl rfl) ?_
    refine rk_exit rfl ?_
    refine rk_seq ?_
    refine rk_seq ?_
    refine rk_reg ?_
    refine lw_v (.int .i64 ((n : Int))) (dv_move (T rfl f14)) ?_
    refine lw_v (.bool (decide (((n : Int)) = 0))) (dv_eql (a := (n : Int)) (b := 0) (T rfl rfl) C) ?_
    refine lw_nil ?_
    by_cases hb32 : ((n : Int)) = 0
    · -- LFT
      refine rk_ct (T rfl (congrArg Value.bool (decide_eq_true hb32))) ?_
      refine rk_seq ?_
      refine rk_reg ?_
      refine lw_v (.agg #[.bool false, .slice none 0 0]) (dv_build (pv := []) (l := [.bool false, .slice none 0 0]) zc62 pl62 trivial rfl) ?_
      refine lw_e (oe_store (v := .agg #[.bool false, .slice none 0 0]) (vs := [.bool false, .slice none 0 0]) (l := [.bool false, .slice none 0 0]) (T rfl f13) (T rfl rfl) sz62 rfl rfl rfl H16 rfl ?_)
      intro w33 s34 H35
      have E36 := below_st E15 N4 s34
      refine lw_nil ?_
      refine rk_ret Try.func89 (v := .agg #[.bool false, .slice none 0 0]) (res1 Try.results89 (rv_cells (l := [.bool false, .slice none 0 0]) agt62 sz62 rfl f13 H35 rfl)) ⟨_, rfl, ?_⟩
      have hl := trim_done xs n hn ht (by rw [getD_take_or]; omega)
      exact ⟨by rw [hl]; rw [if_pos (by omega)], E36⟩
    · -- LFF
      refine rk_cf (T rfl (congrArg Value.bool (decide_eq_false hb32))) ?_
      refine rk_skip ?_
      refine rk_seq ?_
      refine rk_reg ?_
      refine lw_v (.bool neg) (dv_move (T rfl f11)) ?_
      refine lw_v (.slice A (xs.length) c) (dv_move (T rfl f12)) ?_
      refine lw_v (.int .i64 ((n : Int))) (dv_move (T rfl f14)) ?_
      refine lw_v (.slice A n c) (dv_sliceH (ad := A) (l := xs.length) (c := c) (i := n) (j := (n : Int)) us60 sz115 (T rfl rfl) (T rfl rfl) (by omega) (by first | omega | (simp; done) | (simp; omega))) ?_
      refine lw_v (.agg #[.bool neg, .slice A n c]) (dv_build (pv := [(0, .bool neg), (1, .slice A n c)]) (l := [.bool neg, .slice A n c]) zc62 pl62 ⟨rfl, (T rfl rfl), ⟨rfl, (T rfl rfl), trivial⟩⟩ rfl) ?_
      refine lw_e (oe_store (v := .agg #[.bool neg, .slice A n c]) (vs := [.bool neg, .slice A n c]) (l := [.bool neg, .slice A n c]) (T rfl f13) (T rfl rfl) sz62 rfl rfl rfl H16 rfl ?_)
      intro w37 s38 H39
      have E40 := below_st E15 N4 s38
      refine lw_nil ?_
      refine rk_ret Try.func89 (v := .agg #[.bool neg, .slice A n c]) (res1 Try.results89 (rv_cells (l := [.bool neg, .slice A n c]) agt62 sz62 rfl f13 H39 rfl)) ⟨_, rfl, ?_⟩
      have hl := trim_done xs n hn ht (by rw [getD_take_or]; omega)
      exact ⟨by rw [hl]; rw [if_neg (by omega)], E40⟩

theorem l1Trim_num {w : World} {neg : Bool} {A : Option Addr} {l c s : Nat} {x : Int} (h : Ws 32 115 .u32 w A l c x) (hl : l ≤ 1000000) (hs : x < 2 ^ s) : Ct Try.prog 89 [.bool neg, .slice A l c] w fun v w1 =>
    ∃ nb A' n c', v = .agg #[.bool nb, .slice A' n c'] ∧ Ext w w1 ∧ Num 32 115 .u32 w1 nb A' n c' (sg neg x) s := by
  obtain ⟨xs, rfl, hc, hw, ho, hv⟩ := h
  refine (l1Trim_ok (neg := neg) hw hc hl).mono fun v w1 ⟨h1, h2⟩ => ?_
  have hc' := trimL_canon xs
  have hcp := canon_pos (B := 2 ^ 32) (by decide) (trimL_ok ho) hc'
  rw [trimL_val, ← hv] at hcp
  have h0 := valB_nonneg (B := 2 ^ 32) (by decide) ho
  by_cases hz : (trimL xs).length = 0
  · rw [if_pos hz] at h1
    have hx0 : x = 0 := by omega
    subst hx0
    exact ⟨_, _, _, _, h1, h2, Num.zero.to (by cases neg <;> simp [sg]) (Nat.le_refl _)⟩
  · rw [if_neg hz] at h1
    exact ⟨_, _, _, _, h1, h2, Wc.num ⟨trimL xs, rfl, Nat.le_trans (trimL_len xs) hc, (hw.ext h2).trim, trimL_ok ho, hc', by rw [hv, trimL_val]⟩ (fun hn => by omega) rfl hs⟩

set_option maxHeartbeats 1000000 in
theorem l1SubAbs_ok {w : World} {A D : Option Addr} {c d : Nat} {xs ys : List Int} (hx : Wd w 115 .u32 A xs) (hy : Wd w 115 .u32 D ys) (hc : xs.length ≤ c) (hd : ys.length ≤ d) (ox : okW (2 ^ 32) xs) (oy : okW (2 ^ 32) ys) (lx : xs.length ≤ 500000) (ly : ys.length ≤ 500000) (hyx : ys.length ≤ xs.length) (hle : valB (2 ^ 32) ys ≤ valB (2 ^ 32) xs) : Ct Try.prog 90 [.slice A (xs.length) c, .slice D (ys.length) d] w fun v w1 => ∃ A' n c', v = .slice A' n c' ∧ Ext w w1 ∧ Ws 32 115 .u32 w1 A' n c' (valB (2 ^ 32) xs - valB (2 ^ 32) ys) ∧ n = xs.length ∧ ∀ g o, A' = some ⟨g, o, none⟩ → w.heap.size ≤ g := by
  refine ct_run (n := 49) Try.func90 rfl Try.ntmps90 rfl ?_
  have E0 : Below w.heap.size w w := Below.refl _ _
  refine rk_seq ?_
  refine rk_reg ?_
  refine lw_v (.slice none 0 0) (dv_assign C) ?_
  refine lw_nil ?_
  refine rk_seq ?_
  refine rk_reg ?_
  refine lw_v (.slice A (xs.length) c) (dv_move (T rfl rfl)) ?_
  refine lw_v (.int .i64 ((xs.length : Int))) (dv_len (ad := A) (l := xs.length) (c := c) us60 (T rfl rfl)) ?_
  refine lw_e (oe_makeCapW (c := xs.length) (j := (xs.length : Int)) us60 in115 C (T rfl rfl) (by omega) (by first | omega | (simp; done) | (simp; omega)) (by first | omega | (simp; done) | (simp; omega)) ?_)
  intro b1 w2 n3 hO4
  have N5 : w.heap.size ≤ b1 := n3.eq ▸ E0.size
  have E6 := below_ext E0 E0.size n3.ext
  refine lw_v (.slice (some ⟨b1, 0, none⟩) (([] : List Int).length) (xs.length)) (dv_assign (T rfl rfl)) ?_
  refine lw_nil ?_
  refine rk_seq ?_
  refine rk_reg ?_
  refine lw_v (.int .u64 0) (dv_assign C) ?_
  refine lw_nil ?_
  refine rk_seq ?_
  refine rk_seq ?_
  refine rk_reg ?_
  refine lw_v (.int .i64 0) (dv_assign C) ?_
  refine lw_nil ?_
  refine rk_block ?_
  refine rk_loop (fun dm_ fr wl => ∃ (i : Nat) (L : List Int) (Ad : Option Addr) (cp : Nat) (cy : Int), dm_ = xs.length - i ∧ fr 0 = .slice A (xs.length) c ∧ fr 1 = .slice D (ys.length) d ∧ fr 4 = .slice none 0 0 ∧ fr 5 = .slice Ad (L.length) cp ∧ fr 6 = .int .u64 cy ∧ fr 7 = .int .i64 ((i : Int)) ∧ Below w.heap.size w wl ∧ Ow wl b1 115 .u32 Ad cp L ∧ (i ≤ xs.length) ∧ (L.length = i) ∧ (okW (2 ^ 32) L) ∧ (0 ≤ cy ∧ cy ≤ 1) ∧ (valB (2 ^ 32) L - cy * (2 ^ 32) ^ i = valB (2 ^ 32) (xs.take i) - valB (2 ^ 32) (ys.take i))) (xs.length - 0) ⟨0, ([] : List Int), (some ⟨b1, 0, none⟩), xs.length, 0, rfl, rfl, rfl, rfl, rfl, rfl, (vi (by omega)), E6, hO4, (Nat.zero_le _), rfl, okW.nil, (by decide), (by simp [valB])⟩ ?_
  intro d11 fr10 w7 hI8 ih9
  obtain ⟨i, L, Ad, cp, cy, hd20, f12, f13, f14, f15, f16, f17, E18, h19, hi, hl, hok, hcy, hv⟩ := hI8
  have bxs := okW.getD ox (by decide) i
  have gxs := getD_ge xs i
  have bys := okW.getD oy (by decide) i
  have gys := getD_ge ys i
  refine rk_seq ?_
  refine rk_seq ?_
  refine rk_reg ?_
  refine lw_v (.int .i64 ((i : Int))) (dv_move (T rfl f17)) ?_
  refine lw_v (.slice A (xs.length) c) (dv_move (T rfl f12)) ?_
  refine lw_v (.int .i64 ((xs.length : Int))) (dv_len (ad := A) (l := xs.length) (c := c) us60 (T rfl rfl)) ?_
  refine lw_v (.bool (decide (((i : Int)) < ((xs.length : Int))))) (dv_lss (a := (i : Int)) (b := (xs.length : Int)) (T rfl rfl) (T rfl rfl)) ?_
  refine lw_nil ?_
  by_cases hb21 : ((i : Int)) < ((xs.length : Int))
  · -- LT
    refine rk_ct (T rfl (congrArg Value.bool (decide_eq_true hb21))) ?_
    refine rk_skip ?_
    refine rk_seq ?_
    refine rk_block ?_
    refine rk_seq ?_
    refine rk_reg ?_
    refine lw_v (.slice A (xs.length) c) (dv_move (T rfl f12)) ?_
    refine lw_v (.int .i64 ((i : Int))) (dv_move (T rfl f17)) ?_
    have h22 := (hx.ext E18)
    obtain ⟨g23, o24, rfl⟩ := Wd.at h22 (by first | omega | (simp; done) | (simp; omega))
    refine lw_v (.pointer (some ⟨g23, o24 + i, none⟩)) (dv_indexW (g := g23) (o := o24) (l := xs.length) (c := c) (i := i) (j := (i : Int)) us60 sz115 (T rfl rfl) (T rfl rfl) (by omega) (by first | omega | (simp; done) | (simp; omega))) ?_
    refine lw_v (.int .u32 (xs.getD i 0)) (dv_load agt115 (T rfl rfl) (Wd.cell h22 (by first | omega | (simp; done) | (simp; omega)))) ?_
    refine lw_v (.int .u64 (xs.getD i 0)) (dv_conv (a := xs.getD i 0) (z := xs.getD i 0) ui115 ui22 (T rfl rfl) (wn_u64 (by omega) (by omega))) ?_
    refine lw_v (.int .u64 (xs.getD i 0)) (dv_assign (T rfl rfl)) ?_
    refine lw_nil ?_
    refine rk_seq ?_
    refine rk_reg ?_
    refine lw_v (.int .u64 cy) (dv_move (T rfl f16)) ?_
    refine lw_v (.int .u64 cy) (dv_assign (T rfl rfl)) ?_
    refine lw_nil ?_
    refine rk_seq ?_
    refine rk_seq ?_
    refine rk_reg ?_
    refine lw_v (.int .i64 ((i : Int))) (dv_move (T rfl f17)) ?_
    refine lw_v (.slice D (ys.length) d) (dv_move (T rfl f13)) ?_
    refine lw_v (.int .i64 ((ys.length : Int))) (dv_len (ad := D) (l := ys.length) (c := d) us60 (T rfl rfl)) ?_
    refine lw_v (.bool (decide (((i : Int)) < ((ys.length : Int))))) (dv_lss (a := (i : Int)) (b := (ys.length : Int)) (T rfl rfl) (T rfl rfl)) ?_
    refine lw_nil ?_
    by_cases hb25 : ((i : Int)) < ((ys.length : Int))
    · -- LTT
      refine rk_ct (T rfl (congrArg Value.bool (decide_eq_true hb25))) ?_
      refine rk_reg ?_
      refine lw_v (.int .u64 cy) (dv_move (T rfl rfl)) ?_
      refine lw_v (.slice D (ys.length) d) (dv_move (T rfl f13)) ?_
      refine lw_v (.int .i64 ((i : Int))) (dv_move (T rfl f17)) ?_
      have h26 := (hy.ext E18)
      obtain ⟨g27, o28, rfl⟩ := Wd.at h26 (by first | omega | (simp; done) | (simp; omega))
      refine lw_v (.pointer (some ⟨g27, o28 + i, none⟩)) (dv_indexW (g := g27) (o := o28) (l := ys.length) (c := d) (i := i) (j := (i : Int)) us60 sz115 (T rfl rfl) (T rfl rfl) (by omega) (by first | omega | (simp; done) | (simp; omega))) ?_
      refine lw_v (.int .u32 (ys.getD i 0)) (dv_load agt115 (T rfl rfl) (Wd.cell h26 (by first | omega | (simp; done) | (simp; omega)))) ?_
      refine lw_v (.int .u64 (ys.getD i 0)) (dv_conv (a := ys.getD i 0) (z := ys.getD i 0) ui115 ui22 (T rfl rfl) (wn_u64 (by omega) (by omega))) ?_
      refine lw_v (.int .u64 (cy + (ys.getD i 0))) (dv_add (a := cy) (b := ys.getD i 0) (z := cy + (ys.getD i 0)) (T rfl rfl) (T rfl rfl) (wn_u64 (by omega) (by omega))) ?_
      refine lw_v (.int .u64 (cy + (ys.getD i 0))) (dv_assign (T rfl rfl)) ?_
      refine lw_nil ?_
      refine rk_seq ?_
      refine rk_reg ?_
      refine lw_v (.int .u64 0) (dv_assign C) ?_
      refine lw_nil ?_
      refine rk_seq ?_
      refine rk_seq ?_
      refine rk_reg ?_
      refine lw_v (.int .u64 (xs.getD i 0)) (dv_move (T rfl rfl)) ?_
      refine lw_v (.int .u64 (cy + (ys.getD i 0))) (dv_move (T rfl rfl)) ?_
      refine lw_v (.bool (decide ((xs.getD i 0) < (cy + (ys.getD i 0))))) (dv_lss (a := xs.getD i 0) (b := cy + (ys.getD i 0)) (T rfl rfl) (T rfl rfl)) ?_
      refine lw_nil ?_
      by_cases hb29 : (xs.getD i 0) < (cy + (ys.getD i 0))
      · -- LTTT
        refine rk_ct (T rfl (congrArg Value.bool (decide_eq_true hb29))) ?_
        refine rk_seq ?_
        refine rk_reg ?_
        refine lw_v (.int .u64 (xs.getD i 0)) (dv_move (T rfl rfl)) ?_
        refine lw_v (.int .u64 ((xs.getD i 0) + 4294967296)) (dv_add (a := xs.getD i 0) (b := 4294967296) (z := (xs.getD i 0) + 4294967296) (T rfl rfl) C (wn_u64 (by omega) (by omega))) ?_
        refine lw_v (.int .u64 ((xs.getD i 0) + 4294967296)) (dv_assign (T rfl rfl)) ?_
        refine lw_nil ?_
        refine rk_reg ?_
        refine lw_v (.int .u64 1) (dv_assign C) ?_
        refine lw_nil ?_
        refine rk_reg ?_
        refine lw_v (.slice Ad (L.length) cp) (dv_move (T rfl f15)) ?_
        refine lw_v (.int .u64 ((xs.getD i 0) + 4294967296)) (dv_move (T rfl rfl)) ?_
        refine lw_v (.int .u64 (cy + (ys.getD i 0))) (dv_move (T rfl rfl)) ?_
        refine lw_v (.int .u64 (((xs.getD i 0) + 4294967296) - (cy + (ys.getD i 0)))) (dv_sub (a := (xs.getD i 0) + 4294967296) (b := cy + (ys.getD i 0)) (z := ((xs.getD i 0) + 4294967296) - (cy + (ys.getD i 0))) (T rfl rfl) (T rfl rfl) (wn_u64 (by omega) (by omega))) ?_
        refine lw_v (.int .u32 ((((xs.getD i 0) + 4294967296) - (cy + (ys.getD i 0))) % 4294967296)) (dv_conv (a := ((xs.getD i 0) + 4294967296) - (cy + (ys.getD i 0))) (z := (((xs.getD i 0) + 4294967296) - (cy + (ys.getD i 0))) % 4294967296) ui22 ui115 (T rfl rfl) (wr_u32 _)) ?_
        refine lw_e (oe_buildSlice (pv := [(0, .int .u32 ((((xs.getD i 0) + 4294967296) - (cy + (ys.getD i 0))) % 4294967296))]) (init := [.int .u32 0]) (l := [.int .u32 ((((xs.getD i 0) + 4294967296) - (cy + (ys.getD i 0))) % 4294967296)]) us60 sz115 rfl rfl zc115 (by kernel_rfl) ⟨rfl, (T rfl rfl), trivial⟩ rfl ?_)
        intro b30 w31 n32
        have N33 : w.heap.size ≤ b30 := n32.eq ▸ E18.size
        have E34 := below_ext E18 E18.size n32.ext
        have h35 := (h19.ext n32.ext)
        refine lw_e (oe_appendW (base := b1) (L := L) (M := [(((xs.getD i 0) + 4294967296) - (cy + (ys.getD i 0))) % 4294967296]) (m := 1) us60 in115 (T rfl rfl) (T rfl rfl) h35 (Wd.ownW (xs := [(((xs.getD i 0) + 4294967296) - (cy + (ys.getD i 0))) % 4294967296]) n32.blk) rfl (by first | omega | (simp; done) | (simp; omega)) (by first | omega | (simp; done) | (simp; omega)) ?_)
        intro Ad36 c37 w38 hO39 x40
        have E41 := below_bl E34 N5 x40
        refine lw_v (.slice Ad36 ((L ++ [(((xs.getD i 0) + 4294967296) - (cy + (ys.getD i 0))) % 4294967296]).length) c37) (dv_assign (T rfl rfl)) ?_
        refine lw_nil ?_
        refine rk_inBlock ?_
        refine rk_reg ?_
        refine lw_v (.int .i64 ((i : Int))) (dv_move (T rfl f17)) ?_
        refine lw_v (.int .i64 (((i : Int)) + 1)) (dv_add (a := (i : Int)) (b := 1) (z := ((i : Int)) + 1) (T rfl rfl) C (wr_i64 (by omega) (by omega))) ?_
        refine lw_v (.int .i64 (((i : Int)) + 1)) (dv_assign (T rfl rfl)) ?_
        refine lw_nil ?_
        exact ih9 (xs.length - ((i + 1))) _ _ (by rw [hd20]; omega) ⟨(i + 1), (L ++ [(((xs.getD i 0) + 4294967296) - (cy + (ys.getD i 0))) % 4294967296]), Ad36, c37, 1, rfl, f12, f13, f14, rfl, rfl, (vi (by omega)), E41, hO39, (by omega), (by simp [hl]), (okW.snoc hok (by omega) (by omega)), (by omega), (sub_app hl hv (by omega))⟩
      · -- LTTF
        refine rk_cf (T rfl (congrArg Value.bool (decide_eq_false hb29))) ?_
        refine rk_skip ?_
        refine rk_reg ?_
        refine lw_v (.slice Ad (L.length) cp) (dv_move (T rfl f15)) ?_
        refine lw_v (.int .u64 (xs.getD i 0)) (dv_move (T rfl rfl)) ?_
        refine lw_v (.int .u64 (cy + (ys.getD i 0))) (dv_move (T rfl rfl)) ?_
        refine lw_v (.int .u64 ((xs.getD i 0) - (cy + (ys.getD i 0)))) (dv_sub (a := xs.getD i 0) (b := cy + (ys.getD i 0)) (z := (xs.getD i 0) - (cy + (ys.getD i 0))) (T rfl rfl) (T rfl rfl) (wn_u64 (by omega) (by omega))) ?_
        refine lw_v (.int .u32 (((xs.getD i 0) - (cy + (ys.getD i 0))) % 4294967296)) (dv_conv (a := (xs.getD i 0) - (cy + (ys.getD i 0))) (z := ((xs.getD i 0) - (cy + (ys.getD i 0))) % 4294967296) ui22 ui115 (T rfl rfl) (wr_u32 _)) ?_
        refine lw_e (oe_buildSlice (pv := [(0, .int .u32 (((xs.getD i 0) - (cy + (ys.getD i 0))) % 4294967296))]) (init := [.int .u32 0]) (l := [.int .u32 (((xs.getD i 0) - (cy + (ys.getD i 0))) % 4294967296)]) us60 sz115 rfl rfl zc115 (by kernel_rfl) ⟨rfl, (T rfl rfl), trivial⟩ rfl ?_)
        intro b42 w43 n44
        have N45 : w.heap.size ≤ b42 := n44.eq ▸ E18.size
        have E46 := below_ext E18 E18.size n44.ext
        have h47 := (h19.ext n44.ext)
        refine lw_e (oe_appendW (base := b1) (L := L) (M := [((xs.getD i 0) - (cy + (ys.getD i 0))) % 4294967296]) (m := 1) us60 in115 (T rfl rfl) (T rfl rfl) h47 (Wd.ownW (xs := [((xs.getD i 0) - (cy + (ys.getD i 0))) % 4294967296]) n44.blk) rfl (by first | omega | (simp; done) | (simp; omega)) (by first | omega | (simp; done) | (simp; omega)) ?_)
        intro Ad48 c49 w50 hO51 x52
        have E53 := below_bl E46 N5 x52
        refine lw_v (.slice Ad48 ((L ++ [((xs.getD i 0) - (cy + (ys.getD i 0))) % 4294967296]).length) c49) (dv_assign (T rfl rfl)) ?_
        refine lw_nil ?_
        refine rk_inBlock ?_
        refine rk_reg ?_
        refine lw_v (.int .i64 ((i : Int))) (dv_move (T rfl f17)) ?_
        refine lw_v (.int .i64 (((i : Int)) + 1)) (dv_add (a := (i : Int)) (b := 1) (z := ((i : Int)) + 1) (T rfl rfl) C (wr_i64 (by omega) (by omega))) ?_
        refine lw_v (.int .i64 (((i : Int)) + 1)) (dv_assign (T rfl rfl)) ?_
        refine lw_nil ?_
        exact ih9 (xs.length - ((i + 1))) _ _ (by rw [hd20]; omega) ⟨(i + 1), (L ++ [((xs.getD i 0) - (cy + (ys.getD i 0))) % 4294967296]), Ad48, c49, 0, rfl, f12, f13, f14, rfl, rfl, (vi (by omega)), E53, hO51, (by omega), (by simp [hl]), (okW.snoc hok (by omega) (by omega)), (by omega), (sub_app hl hv (by omega))⟩
    · -- LTF
      refine rk_cf (T rfl (congrArg Value.bool (decide_eq_false hb25))) ?_
      refine rk_skip ?_
      refine rk_seq ?_
      refine rk_reg ?_
      refine lw_v (.int .u64 0) (dv_assign C) ?_
      refine lw_nil ?_
      refine rk_seq ?_
      refine rk_seq ?_
      refine rk_reg ?_
      refine lw_v (.int .u64 (xs.getD i 0)) (dv_move (T rfl rfl)) ?_
      refine lw_v (.int .u64 cy) (dv_move (T rfl rfl)) ?_
      refine lw_v (.bool (decide ((xs.getD i 0) < cy))) (dv_lss (a := xs.getD i 0) (b := cy) (T rfl rfl) (T rfl rfl)) ?_
      refine lw_nil ?_
      by_cases hb54 : (xs.getD i 0) < cy
      · -- LTFT
        refine rk_ct (T rfl (congrArg Value.bool (decide_eq_true hb54))) ?_
        refine rk_seq ?_
        refine rk_reg ?_
        refine lw_v (.int .u64 (xs.getD i 0)) (dv_move (T rfl rfl)) ?_
        refine lw_v (.int .u64 ((xs.getD i 0) + 4294967296)) (dv_add (a := xs.getD i 0) (b := 4294967296) (z := (xs.getD i 0) + 4294967296) (T rfl rfl) C (wn_u64 (by omega) (by omega))) ?_
        refine lw_v (.int .u64 ((xs.getD i 0) + 4294967296)) (dv_assign (T rfl rfl)) ?_
        refine lw_nil ?_
        refine rk_reg ?_
        refine lw_v (.int .u64 1) (dv_assign C) ?_
        refine lw_nil ?_
        refine rk_reg ?_
        refine lw_v (.slice Ad (L.length) cp) (dv_move (T rfl f15)) ?_
        refine lw_v (.int .u64 ((xs.getD i 0) + 4294967296)) (dv_move (T rfl rfl)) ?_
        refine lw_v (.int .u64 cy) (dv_move (T rfl rfl)) ?_
        refine lw_v (.int .u64 (((xs.getD i 0) + 4294967296) - cy)) (dv_sub (a := (xs.getD i 0) + 4294967296) (b := cy) (z := ((xs.getD i 0) + 4294967296) - cy) (T rfl rfl) (T rfl rfl) (wn_u64 (by omega) (by omega))) ?_
        refine lw_v (.int .u32 ((((xs.getD i 0) + 4294967296) - cy) % 4294967296)) (dv_conv (a := ((xs.getD i 0) + 4294967296) - cy) (z := (((xs.getD i 0) + 4294967296) - cy) % 4294967296) ui22 ui115 (T rfl rfl) (wr_u32 _)) ?_
        refine lw_e (oe_buildSlice (pv := [(0, .int .u32 ((((xs.getD i 0) + 4294967296) - cy) % 4294967296))]) (init := [.int .u32 0]) (l := [.int .u32 ((((xs.getD i 0) + 4294967296) - cy) % 4294967296)]) us60 sz115 rfl rfl zc115 (by kernel_rfl) ⟨rfl, (T rfl rfl), trivial⟩ rfl ?_)
        intro b55 w56 n57
        have N58 : w.heap.size ≤ b55 := n57.eq ▸ E18.size
        have E59 := below_ext E18 E18.size n57.ext
        have h60 := (h19.ext n57.ext)
        refine lw_e (oe_appendW (base := b1) (L := L) (M := [(((xs.getD i 0) + 4294967296) - cy) % 4294967296]) (m := 1) us60 in115 (T rfl rfl) (T rfl rfl) h60 (Wd.ownW (xs := [(((xs.getD i 0) + 4294967296) - cy) % 4294967296]) n57.blk) rfl (by first | omega | (simp; done) | (simp; omega)) (by first | omega | (simp; done) | (simp; omega)) ?_)
        intro Ad61 c62 w63 hO64 x65
        have E66 := below_bl E59 N5 x65
        refine lw_v (.slice Ad61 ((L ++ [(((xs.getD i 0) + 4294967296) - cy) % 4294967296]).length) c62) (dv_assign (T rfl rfl)) ?_
        refine lw_nil ?_
        refine rk_inBlock ?_
        refine rk_reg ?_
        refine lw_v (.int .i64 ((i : Int))) (dv_move (T rfl f17)) ?_
        refine lw_v (.int .i64 (((i : Int)) + 1)) (dv_add (a := (i : Int)) (b := 1) (z := ((i : Int)) + 1) (T rfl rfl) C (wr_i64 (by omega) (by omega))) ?_
        refine lw_v (.int .i64 (((i : Int)) + 1)) (dv_assign (T rfl rfl)) ?_
        refine lw_nil ?_
        exact ih9 (xs.length - ((i + 1))) _ _ (by rw [hd20]; omega) ⟨(i + 1), (L ++ [(((xs.getD i 0) + 4294967296) - cy) % 4294967296]), Ad61, c62, 1, rfl, f12, f13, f14, rfl, rfl, (vi (by omega)), E66, hO64, (by omega), (by simp [hl]), (okW.snoc hok (by omega) (by omega)), (by omega), (sub_app hl hv (by omega))⟩
      · -- LTFF
        refine rk_cf (T rfl (congrArg Value.bool (decide_eq_false hb54))) ?_
        refine rk_skip ?_
        refine rk_reg ?_
        refine lw_v (.slice Ad (L.length) cp) (dv_move (T rfl f15)) ?_
        refine lw_v (.int .u64 (xs.getD i 0)) (dv_move (T rfl rfl)) ?_
        refine lw_v (.int .u64 cy) (dv_move (T rfl rfl)) ?_
        refine lw_v (.int .u64 ((xs.getD i 0) - cy)) (dv_sub (a := xs.getD i 0) (b := cy) (z := (xs.getD i 0) - cy) (T rfl rfl) (T rfl rfl) (wn_u64 (by omega) (by omega))) ?_
        refine lw_v (.int .u32 (((xs.getD i 0) - cy) % 4294967296)) (dv_conv (a := (xs.getD i 0) - cy) (z := ((xs.getD i 0) - cy) % 4294967296) ui22 ui115 (T rfl rfl) (wr_u32 _)) ?_
        refine lw_e (oe_buildSlice (pv := [(0, .int .u32 (((xs.getD i 0) - cy) % 4294967296))]) (init := [.int .u32 0]) (l := [.int .u32 (((xs.getD i 0) - cy) % 4294967296)]) us60 sz115 rfl rfl zc115 (by kernel_rfl) ⟨rfl, (T rfl rfl), trivial⟩ rfl ?_)
        intro b67 w68 n69
        have N70 : w.heap.size ≤ b67 := n69.eq ▸ E18.size
        have E71 := below_ext E18 E18.size n69.ext
        have h72 := (h19.ext n69.ext)
        refine lw_e (oe_appendW (base := b1) (L := L) (M := [((xs.getD i 0) - cy) % 4294967296]) (m := 1) us60 in115 (T rfl rfl) (T rfl rfl) h72 (Wd.ownW (xs := [((xs.getD i 0) - cy) % 4294967296]) n69.blk) rfl (by first | omega | (simp; done) | (simp; omega)) (by first | omega | (simp; done) | (simp; omega)) ?_)
        intro Ad73 c74 w75 hO76 x77
        have E78 := below_bl E71 N5 x77
        refine lw_v (.slice Ad73 ((L ++ [((xs.getD i 0) - cy) % 4294967296]).length) c74) (dv_assign (T rfl rfl)) ?_
        refine lw_nil ?_
        refine rk_inBlock ?_
        refine rk_reg ?_
        refine lw_v (.int .i64 ((i : Int))) (dv_move (T rfl f17)) ?_
        refine lw_v (.int .i64 (((i : Int)) + 1)) (dv_add (a := (i : Int)) (b := 1) (z := ((i : Int)) + 1) (T rfl rfl) C (wr_i64 (by omega) (by omega))) ?_
        refine lw_v (.int .i64 (((i : Int)) + 1)) (dv_assign (T rfl rfl)) ?_
        refine lw_nil ?_
        exact ih9 (xs.length - ((i + 1))) _ _ (by rw [hd20]; omega) ⟨(i + 1), (L ++ [((xs.getD i 0) - cy) % 4294967296]), Ad73, c74, 0, rfl, f12, f13, f14, rfl, rfl, (vi (by omega)), E78, hO76, (by omega), (by simp [hl]), (okW.snoc hok (by omega) (by omega)), (by omega), (sub_app hl hv (by omega))⟩
  · -- LF
    refine rk_cf (T rfl (congrArg Value.bool (decide_eq_false hb21))) ?_
    refine rk_exit rfl ?_
    refine rk_seq ?_
    refine rk_reg ?_
    refine lw_v (.slice Ad (L.length) cp) (dv_move (T rfl f15)) ?_
    refine lw_v (.slice Ad (L.length) cp) (dv_assign (T rfl rfl)) ?_
    refine lw_nil ?_
    refine rk_ret Try.func90 (v := .slice Ad (L.length) cp) (res1 Try.results90 (rv_tmp rfl rfl)) ⟨_, rfl, ?_⟩
    exact ⟨_, _, _, rfl, E18, ⟨L, rfl, h19.cap, h19.wd, hok, (sub_app_fin (by decide) hl (by omega) (by omega) hok hcy hle hv).symm⟩, by omega, fun q o hq => Nat.le_trans N5 (Ow.ge h19 hq)⟩

theorem l1SubAbs_ws {w : World} {A D : Option Addr} {l c l' d : Nat} {x y : Int} (h : Ws 32 115 .u32 w A l c x) (h' : Ws 32 115 .u32 w D l' d y) (hl : l ≤ 500000) (hl' : l' ≤ 500000) (hyx : l' ≤ l) (hle : y ≤ x) : Ct Try.prog 90 [.slice A l c, .slice D l' d] w fun v w1 =>
    ∃ A' n c', v = .slice A' n c' ∧ Ext w w1 ∧ Ws 32 115 .u32 w1 A' n c' (x - y) ∧ n = l ∧ ∀ g o, A' = some ⟨g, o, none⟩ → w.heap.size ≤ g := by
  obtain ⟨xs, rfl, hc, hw, ho, hv⟩ := h
  obtain ⟨ys, rfl, hc', hw', ho', hv'⟩ := h'
  subst hv; subst hv'
  exact l1SubAbs_ok hw hw' hc hc' ho ho' hl hl' hyx hle

set_option maxHeartbeats 1000000 in
theorem l1Left_ok {w : World} {A : Option Addr} {c N sx : Nat} {xs : List Int} (hx : Wd w 115 .u32 A xs) (hc : xs.length ≤ c) (ox : okW (2 ^ 32) xs) (lx : xs.length ≤ 400000) (ln : N ≤ 400000) (hsx : valB (2 ^ 32) xs < 2 ^ sx) : Ct Try.prog 91 [.slice A (xs.length) c, .int .i64 ((N : Int))] w fun v w1 => ∃ A' n c', v = .slice A' n c' ∧ Ext w w1 ∧ Wc 32 115 .u32 w1 A' n c' (2 ^ N * valB (2 ^ 32) xs) := by
  refine ct_run (n := 47) Try.func91 rfl Try.ntmps91 rfl ?_
  have E0 : Below w.heap.size w w := Below.refl _ _
  refine rk_seq ?_
  refine rk_reg ?_
  refine lw_v (.slice none 0 0) (dv_assign C) ?_
  refine lw_nil ?_
  refine rk_seq ?_
  refine rk_reg ?_
  refine lw_v (.int .i64 ((N : Int))) (dv_move (T rfl rfl)) ?_
  refine lw_v (.int .i64 (((N : Int)) / 32)) (dv_quo (a := (N : Int)) (b := 32) (z := ((N : Int)) / 32) (T rfl rfl) C (by decide) (quo_c (by omega) (by decide) (wr_i64 (by omega) (by omega)))) ?_
  refine lw_e (oe_makeW (l := ((N) / 32)) (j := ((N : Int)) / 32) us60 in115 (T rfl rfl) (T rfl rfl) (by omega) (by first | omega | (simp; done) | (simp; omega)) (by first | omega | (simp; done) | (simp; omega)) ?_)
  intro b1 w2 n3
  have N4 : w.heap.size ≤ b1 := n3.eq ▸ E0.size
  have E5 := below_ext E0 E0.size n3.ext
  refine lw_v (.slice (some ⟨b1, 0, none⟩) (((N) / 32)) (((N) / 32))) (dv_assign (T rfl rfl)) ?_
  refine lw_nil ?_
  refine rk_seq ?_
  refine rk_reg ?_
  refine lw_v (.int .i64 ((N : Int))) (dv_move (T rfl rfl)) ?_
  refine lw_v (.int .i64 (((N : Int)) % 32)) (dv_rem (a := (N : Int)) (b := 32) (z := ((N : Int)) % 32) (T rfl rfl) C (by decide) (rem_c (by omega) rfl)) ?_
  refine lw_v (.int .u64 (((N : Int)) % 32)) (dv_conv (a := ((N : Int)) % 32) (z := ((N : Int)) % 32) ui2 ui114 (T rfl rfl) (wn_u64 (by omega) (by omega))) ?_
  refine lw_v (.int .u64 (((N : Int)) % 32)) (dv_assign (T rfl rfl)) ?_
  refine lw_nil ?_
  refine rk_seq ?_
  refine rk_reg ?_
  refine lw_v (.int .u64 0) (dv_assign C) ?_
  refine lw_nil ?_
  refine rk_seq ?_
  refine rk_seq ?_
  refine rk_reg ?_
  refine lw_v (.int .i64 0) (dv_assign C) ?_
  refine lw_nil ?_
  refine rk_block ?_
  refine rk_loop (fun dm_ fr wl => ∃ (i : Nat) (L : List Int) (Ad : Option Addr) (cp : Nat) (cy : Int), dm_ = xs.length - i ∧ fr 0 = .slice A (xs.length) c ∧ fr 4 = .slice none 0 0 ∧ fr 5 = .slice Ad (L.length) cp ∧ fr 6 = .int .u64 (((N : Int)) % 32) ∧ fr 7 = .int .u64 cy ∧ fr 8 = .int .i64 ((i : Int)) ∧ Below w.heap.size w wl ∧ Ow wl b1 115 .u32 Ad cp L ∧ (i ≤ xs.length) ∧ (L.length = N / 32 + i) ∧ (okW (2 ^ 32) L) ∧ (0 ≤ cy ∧ cy < 2 ^ (N % 32)) ∧ (valB (2 ^ 32) L + (2 ^ 32) ^ L.length * cy = 2 ^ N * valB (2 ^ 32) (xs.take i))) (xs.length - 0) ⟨0, (List.replicate (N / 32) 0), (some ⟨b1, 0, none⟩), (N / 32), 0, rfl, rfl, rfl, (by first | rfl | exact vsl List.length_replicate), rfl, rfl, (vi (by omega)), E5, (Ow.rep n3.blk (by omega)), (Nat.zero_le _), (by simp), (okW.replicate (by decide) _), ⟨by decide, two_pos _⟩, (by simp [valB, valB_zeros])⟩ ?_
  intro d10 fr9 w6 hI7 ih8
  obtain ⟨i, L, Ad, cp, cy, hd19, f11, f12, f13, f14, f15, f16, E17, h18, hi, hl, hok, hcy, hv⟩ := hI7
  have bxs := okW.getD ox (by decide) i
  have bp : (0 : Int) < 2 ^ (N % 32) := two_pos _
  have bq : (2 : Int) ^ (N % 32) ≤ 4294967296 := left_p N
  have bl := left_cy bp hcy.1 hcy.2 bxs.1 (by omega)
  have bm : 0 ≤ xs.getD i 0 * 2 ^ (N % 32) := Int.mul_nonneg bxs.1 (Int.le_of_lt bp)
  refine rk_seq ?_
  refine rk_seq ?_
  refine rk_reg ?_
  refine lw_v (.int .i64 ((i : Int))) (dv_move (T rfl f16)) ?_
  refine lw_v (.slice A (xs.length) c) (dv_move (T rfl f11)) ?_
  refine lw_v (.int .i64 ((xs.length : Int))) (dv_len (ad := A) (l := xs.length) (c := c) us60 (T rfl rfl)) ?_
  refine lw_v (.bool (decide (((i : Int)) < ((xs.length : Int))))) (dv_lss (a := (i : Int)) (b := (xs.length : Int)) (T rfl rfl) (T rfl rfl)) ?_
  refine lw_nil ?_
  by_cases hb20 : ((i : Int)) < ((xs.length : Int))
  · -- LT
    refine rk_ct (T rfl (congrArg Value.bool (decide_eq_true hb20))) ?_
    refine rk_skip ?_
    refine rk_seq ?_
    refine rk_block ?_
    refine rk_seq ?_
    refine rk_reg ?_
    refine lw_v (.int .u64 cy) (dv_move (T rfl f15)) ?_
    refine lw_v (.slice A (xs.length) c) (dv_move (T rfl f11)) ?_
    refine lw_v (.int .i64 ((i : Int))) (dv_move (T rfl f16)) ?_
    have h21 := (hx.ext E17)
    obtain ⟨g22, o23, rfl⟩ := Wd.at h21 (by first | omega | (simp; done) | (simp; omega))
    refine lw_v (.pointer (some ⟨g22, o23 + i, none⟩)) (dv_indexW (g := g22) (o := o23) (l := xs.length) (c := c) (i := i) (j := (i : Int)) us60 sz115 (T rfl rfl) (T rfl rfl) (by omega) (by first | omega | (simp; done) | (simp; omega))) ?_
    refine lw_v (.int .u32 (xs.getD i 0)) (dv_load agt115 (T rfl rfl) (Wd.cell h21 (by first | omega | (simp; done) | (simp; omega)))) ?_
    refine lw_v (.int .u64 (xs.getD i 0)) (dv_conv (a := xs.getD i 0) (z := xs.getD i 0) ui115 ui22 (T rfl rfl) (wn_u64 (by omega) (by omega))) ?_
    refine lw_v (.int .u64 (((N : Int)) % 32)) (dv_move (T rfl f14)) ?_
    refine lw_v (.int .u64 ((xs.getD i 0) * 2 ^ (N % 32))) (dv_shl (a := xs.getD i 0) (b := ((N : Int)) % 32) (z := (xs.getD i 0) * 2 ^ (N % 32)) (T rfl rfl) (T rfl rfl) (by omega) (shl_v (K := N % 32) (by omega) (by omega) (by omega) (by omega))) ?_
    refine lw_v (.int .u64 (cy + ((xs.getD i 0) * 2 ^ (N % 32)))) (dv_or (a := cy) (b := (xs.getD i 0) * 2 ^ (N % 32)) (z := cy + ((xs.getD i 0) * 2 ^ (N % 32))) (T rfl rfl) (T rfl rfl) (or_add (k := .u64) (a := cy) (b := xs.getD i 0 * 2 ^ (N % 32)) (i := N % 32) rfl hcy.1 hcy.2 bm (Int.mul_emod_left _ _) (lt64 (by omega)) (lt64 (by omega))).1) ?_
    refine lw_v (.int .u64 (cy + ((xs.getD i 0) * 2 ^ (N % 32)))) (dv_assign (T rfl rfl)) ?_
    refine lw_nil ?_
    refine rk_seq ?_
    refine rk_reg ?_
    refine lw_v (.slice Ad (L.length) cp) (dv_move (T rfl f13)) ?_
    refine lw_v (.int .u64 (cy + ((xs.getD i 0) * 2 ^ (N % 32)))) (dv_move (T rfl rfl)) ?_
    refine lw_v (.int .u32 ((cy + ((xs.getD i 0) * 2 ^ (N % 32))) % 4294967296)) (dv_conv (a := cy + ((xs.getD i 0) * 2 ^ (N % 32))) (z := (cy + ((xs.getD i 0) * 2 ^ (N % 32))) % 4294967296) ui22 ui115 (T rfl rfl) (wr_u32 _)) ?_
    refine lw_e (oe_buildSlice (pv := [(0, .int .u32 ((cy + ((xs.getD i 0) * 2 ^ (N % 32))) % 4294967296))]) (init := [.int .u32 0]) (l := [.int .u32 ((cy + ((xs.getD i 0) * 2 ^ (N % 32))) % 4294967296)]) us60 sz115 rfl rfl zc115 (by kernel_rfl) ⟨rfl, (T rfl rfl), trivial⟩ rfl ?_)
    intro b24 w25 n26
    have N27 : w.heap.size ≤ b24 := n26.eq ▸ E17.size
    have E28 := below_ext E17 E17.size n26.ext
    have h29 := (h18.ext n26.ext)
    refine lw_e (oe_appendW (base := b1) (L := L) (M := [(cy + ((xs.getD i 0) * 2 ^ (N % 32))) % 4294967296]) (m := 1) us60 in115 (T rfl rfl) (T rfl rfl) h29 (Wd.ownW (xs := [(cy + ((xs.getD i 0) * 2 ^ (N % 32))) % 4294967296]) n26.blk) rfl (by first | omega | (simp; done) | (simp; omega)) (by first | omega | (simp; done) | (simp; omega)) ?_)
    intro Ad30 c31 w32 hO33 x34
    have E35 := below_bl E28 N4 x34
    refine lw_v (.slice Ad30 ((L ++ [(cy + ((xs.getD i 0) * 2 ^ (N % 32))) % 4294967296]).length) c31) (dv_assign (T rfl rfl)) ?_
    refine lw_nil ?_
    refine rk_reg ?_
    refine lw_v (.int .u64 (cy + ((xs.getD i 0) * 2 ^ (N % 32)))) (dv_move (T rfl rfl)) ?_
    refine lw_v (.int .u64 ((cy + ((xs.getD i 0) * 2 ^ (N % 32))) / 4294967296)) (dv_shr (a := cy + ((xs.getD i 0) * 2 ^ (N % 32))) (b := 32) (z := (cy + ((xs.getD i 0) * 2 ^ (N % 32))) / 4294967296) (T rfl rfl) C (by decide) (shr_c (n := 32) (by omega) (by decide))) ?_
    refine lw_v (.int .u64 ((cy + ((xs.getD i 0) * 2 ^ (N % 32))) / 4294967296)) (dv_assign (T rfl rfl)) ?_
    refine lw_nil ?_
    refine rk_inBlock ?_
    refine rk_reg ?_
    refine lw_v (.int .i64 ((i : Int))) (dv_move (T rfl f16)) ?_
    refine lw_v (.int .i64 (((i : Int)) + 1)) (dv_add (a := (i : Int)) (b := 1) (z := ((i : Int)) + 1) (T rfl rfl) C (wr_i64 (by omega) (by omega))) ?_
    refine lw_v (.int .i64 (((i : Int)) + 1)) (dv_assign (T rfl rfl)) ?_
    refine lw_nil ?_
    exact ih8 (xs.length - ((i + 1))) _ _ (by rw [hd19]; omega) ⟨(i + 1), (L ++ [(cy + ((xs.getD i 0) * 2 ^ (N % 32))) % 4294967296]), Ad30, c31, ((cy + ((xs.getD i 0) * 2 ^ (N % 32))) / 4294967296), rfl, f11, f12, (by first | rfl | exact vsl List.length_replicate), f14, rfl, (vi (by omega)), E35, hO33, (by omega), (by simp [hl]; omega), (okW.snoc hok (by omega) (by omega)), ⟨by omega, left_c2 bl⟩, (left_inv hl hv rfl (by omega))⟩
  · -- LF
    refine rk_cf (T rfl (congrArg Value.bool (decide_eq_false hb20))) ?_
    refine rk_exit rfl ?_
    refine rk_seq ?_
    refine rk_seq ?_
    refine rk_reg ?_
    refine lw_v (.int .u64 cy) (dv_move (T rfl f15)) ?_
    refine lw_v (.bool (decide (0 < cy))) (dv_gtr (a := cy) (b := 0) (T rfl rfl) C) ?_
    refine lw_nil ?_
    refine rk_join (fun fr wl => ∃ (M : List Int) (Ae : Option Addr) (cq : Nat), fr 4 = .slice none 0 0 ∧ fr 5 = .slice Ae (M.length) cq ∧ Below w.heap.size w wl ∧ Ow wl b1 115 .u32 Ae cq M ∧ (valB (2 ^ 32) M = 2 ^ N * valB (2 ^ 32) xs) ∧ (okW (2 ^ 32) M) ∧ (M.length ≤ 900000)) ?_ (fun hj38 => ?_)
    · -- behind the join
      intro fr39 w36 hI37
      obtain ⟨M, Ae, cq, f40, f41, E42, h43, hvm, hmo, hml⟩ := hI37
      refine rk_seq ?_
      refine rk_reg ?_
      refine lw_v (.slice Ae (M.length) cq) (dv_move (T rfl f41)) ?_
      refine lw_e (oe_callf (vs := [.bool false, .slice Ae (M.length) cq]) co89 (ar2 C (T rfl rfl)) (l1Trim_num (s := (sx + N)) (neg := false) (⟨M, rfl, h43.cap, h43.wd, hmo, rfl⟩ : Ws _ _ _ _ _ _ _ _) (by first | omega | (simp; done) | (simp; omega)) (left_sz hvm hsx)) ?_)
      rintro _ w49 ⟨nb44, A45, n46, c47, rfl, e50, hn48⟩
      have E51 := below_ext E42 E42.size e50
      have lhn48 := Num.len (by decide) hn48
      refine lw_v (.slice A45 n46 c47) (dv_field (v := .slice A45 n46 c47) fb62_1 agt60 (T rfl rfl) rfl) ?_
      refine lw_v (.slice A45 n46 c47) (dv_assign (T rfl rfl)) ?_
      refine lw_nil ?_
      refine rk_ret Try.func91 (v := .slice A45 n46 c47) (res1 Try.results91 (rv_tmp rfl rfl)) ⟨_, rfl, ?_⟩
      exact ⟨_, _, _, rfl, E51, Wc.eq hn48.wc (by rw [sg_natAbs (by rw [hvm]; exact Int.mul_nonneg (Int.le_of_lt (two_pos N)) (valB_nonneg (by decide) ox)), hvm])⟩
    · -- up to the join
      by_cases hb52 : 0 < cy
      · -- LFT
        refine rk_ct (T rfl (congrArg Value.bool (decide_eq_true hb52))) ?_
        refine rk_reg ?_
        refine lw_v (.slice Ad (L.length) cp) (dv_move (T rfl f13)) ?_
        refine lw_v (.int .u64 cy) (dv_move (T rfl f15)) ?_
        refine lw_v (.int .u32 ((cy) % 4294967296)) (dv_conv (a := cy) (z := (cy) % 4294967296) ui22 ui115 (T rfl rfl) (wr_u32 _)) ?_
        refine lw_e (oe_buildSlice (pv := [(0, .int .u32 ((cy) % 4294967296))]) (init := [.int .u32 0]) (l := [.int .u32 ((cy) % 4294967296)]) us60 sz115 rfl rfl zc115 (by kernel_rfl) ⟨rfl, (T rfl rfl), trivial⟩ rfl ?_)
        intro b53 w54 n55
        have N56 : w.heap.size ≤ b53 := n55.eq ▸ E17.size
        have E57 := below_ext E17 E17.size n55.ext
        have h58 := (h18.ext n55.ext)
        refine lw_e (oe_appendW (base := b1) (L := L) (M := [(cy) % 4294967296]) (m := 1) us60 in115 (T rfl rfl) (T rfl rfl) h58 (Wd.ownW (xs := [(cy) % 4294967296]) n55.blk) rfl (by first | omega | (simp; done) | (simp; omega)) (by first | omega | (simp; done) | (simp; omega)) ?_)
        intro Ad59 c60 w61 hO62 x63
        have E64 := below_bl E57 N4 x63
        refine lw_v (.slice Ad59 ((L ++ [(cy) % 4294967296]).length) c60) (dv_assign (T rfl rfl)) ?_
        refine lw_nil ?_
        exact hj38 _ _ ⟨(L ++ [(cy) % 4294967296]), Ad59, c60, f12, rfl, E64, hO62, (by first | (rw [Int.emod_eq_of_lt hcy.1 (by omega)]; exact left_fin hv (by omega)) | exact left_fin0 hv (by omega) (by omega)), (by first | exact hok | exact okW.snoc hok (by omega) (by omega)), (by first | (simp; omega) | omega)⟩
      · -- LFF
        refine rk_cf (T rfl (congrArg Value.bool (decide_eq_false hb52))) ?_
        refine rk_skip ?_
        exact hj38 _ _ ⟨L, Ad, cp, f12, f13, E17, h18, (by first | (rw [Int.emod_eq_of_lt hcy.1 (by omega)]; exact left_fin hv (by omega)) | exact left_fin0 hv (by omega) (by omega)), (by first | exact hok | exact okW.snoc hok (by omega) (by omega)), (by first | (simp; omega) | omega)⟩

theorem l1Left_ws {w : World} {A : Option Addr} {l c N s : Nat} {x j : Int} (h : Ws 32 115 .u32 w A l c x) (hl : l ≤ 400000) (ln : N ≤ 400000) (hs : x < 2 ^ s) (hj : j = (N : Nat)) : Ct Try.prog 91 [.slice A l c, .int .i64 j] w fun v w1 =>
    ∃ A' n c', v = .slice A' n c' ∧ Ext w w1 ∧ Wc 32 115 .u32 w1 A' n c' (2 ^ N * x) := by
  subst hj
  obtain ⟨xs, rfl, hc, hw, ho, hv⟩ := h
  subst hv
  exact l1Left_ok hw hc ho hl ln hs

set_option maxHeartbeats 1000000 in
theorem l1Sign_ok {w : World} {na : Bool} {Aa : Option Addr} {la ca : Nat} {x : Int} {sx : Nat} (ha : Num 32 115 .u32 w na Aa la ca x sx) : Ct Try.prog 69 [.agg #[.bool na, .slice Aa la ca]] w fun v w1 => v = .int .i64 (sgnI x) ∧ Ext w w1 := by
  refine ct_run (n := 9) Try.func69 rfl Try.ntmps69 rfl ?_
  have E0 : Below w.heap.size w w := Below.refl _ _
  refine rk_seq ?_
  refine rk_reg ?_
  refine lw_e (oe_box (v := .agg #[.bool na, .slice Aa la ca]) (cs := #[.bool na, .slice Aa la ca]) (T rfl rfl) rfl ?_)
  intro b1 w2 n3
  have N4 : w.heap.size ≤ b1 := n3.eq ▸ E0.size
  have E5 := below_ext E0 E0.size n3.ext
  refine lw_v (.int .i64 0) (dv_assign C) ?_
  refine lw_nil ?_
  refine rk_seq ?_
  refine rk_seq ?_
  refine rk_reg ?_
  refine lw_v (.pointer (some ⟨b1, 1, none⟩)) (dv_fieldAddr (a := ⟨b1, 0, none⟩) (a' := ⟨b1, 1, none⟩) fo62_1 (T rfl rfl) rfl) ?_
  refine lw_v (.slice Aa la ca) (dv_load1 (b := b1) (o := 1) agt60 (T rfl rfl) n3.blk rfl) ?_
  refine lw_v (.int .i64 ((la : Int))) (dv_len (ad := Aa) (l := la) (c := ca) us60 (T rfl rfl)) ?_
  refine lw_v (.bool (decide (((la : Int)) = 0))) (dv_eql (a := (la : Int)) (b := 0) (T rfl rfl) C) ?_
  refine lw_nil ?_
  by_cases hb6 : ((la : Int)) = 0
  · -- T
    refine rk_ct (T rfl (congrArg Value.bool (decide_eq_true hb6))) ?_
    refine rk_seq ?_
    refine rk_reg ?_
    refine lw_v (.int .i64 0) (dv_assign C) ?_
    refine lw_nil ?_
    refine rk_ret Try.func69 (v := .int .i64 0) (res1 Try.results69 (rv_tmp rfl rfl)) ⟨_, rfl, ?_⟩
    exact ⟨vi (by have h1 := ha.neg_iff; have h2 := ha.pos_iff; grind [sgnI]), E5⟩
  · -- F
    refine rk_cf (T rfl (congrArg Value.bool (decide_eq_false hb6))) ?_
    refine rk_skip ?_
    refine rk_seq ?_
    refine rk_seq ?_
    refine rk_reg ?_
    refine lw_v (.pointer (some ⟨b1, 0, none⟩)) (dv_fieldAddr (a := ⟨b1, 0, none⟩) (a' := ⟨b1, 0, none⟩) fo62_0 (T rfl rfl) rfl) ?_
    refine lw_v (.bool na) (dv_load1 (b := b1) (o := 0) agt4 (T rfl rfl) n3.blk rfl) ?_
    refine lw_nil ?_
    rcases Bool.eq_false_or_eq_true (na) with hb7 | hb7
    · -- FT
      refine rk_ct (T rfl (congrArg Value.bool hb7)) ?_
      refine rk_seq ?_
      refine rk_reg ?_
      refine lw_v (.int .i64 (-1)) (dv_assign C) ?_
      refine lw_nil ?_
      refine rk_ret Try.func69 (v := .int .i64 (-1)) (res1 Try.results69 (rv_tmp rfl rfl)) ⟨_, rfl, ?_⟩
      exact ⟨vi (by have h1 := ha.neg_iff; have h2 := ha.pos_iff; grind [sgnI]), E5⟩
    · -- FF
      refine rk_cf (T rfl (congrArg Value.bool hb7)) ?_
      refine rk_skip ?_
      refine rk_seq ?_
      refine rk_reg ?_
      refine lw_v (.int .i64 1) (dv_assign C) ?_
      refine lw_nil ?_
      refine rk_ret Try.func69 (v := .int .i64 1) (res1 Try.results69 (rv_tmp rfl rfl)) ⟨_, rfl, ?_⟩
      exact ⟨vi (by have h1 := ha.neg_iff; have h2 := ha.pos_iff; grind [sgnI]), E5⟩

set_option maxHeartbeats 1000000 in
theorem l1From_ok {w : World} {a3 a2 a1 a0 : Int} (h3 : 0 ≤ a3 ∧ a3 < 18446744073709551616) (h2 : 0 ≤ a2 ∧ a2 < 18446744073709551616) (h1 : 0 ≤ a1 ∧ a1 < 18446744073709551616) (h0 : 0 ≤ a0 ∧ a0 < 18446744073709551616) : Ct Try.prog 46 [.agg #[.int .u64 a3, .int .u64 a2, .int .u64 a1, .int .u64 a0]] w fun v w1 => ∃ nr A' n c', v = .agg #[.bool nr, .slice A' n c'] ∧ Ext w w1 ∧ Num 32 115 .u32 w1 nr A' n c' (wz a3 a2 a1 a0) (256) := by
  refine ct_run (n := 47) Try.func46 rfl Try.ntmps46 rfl ?_
  have E0 : Below w.heap.size w w := Below.refl _ _
  refine rk_seq ?_
  refine rk_reg ?_
  refine lw_e (oe_box (v := .agg #[.int .u64 a3, .int .u64 a2, .int .u64 a1, .int .u64 a0]) (cs := #[.int .u64 a3, .int .u64 a2, .int .u64 a1, .int .u64 a0]) (T rfl rfl) rfl ?_)
  intro b1 w2 n3
  have N4 : w.heap.size ≤ b1 := n3.eq ▸ E0.size
  have E5 := below_ext E0 E0.size n3.ext
  refine lw_e (oe_alloc ze62 ?_)
  intro b6 w7 n8
  have N9 : w.heap.size ≤ b6 := n8.eq ▸ E5.size
  have : b1 < b6 := n8.eq ▸ lt_of_blk n3.blk
  have E10 := below_ext E5 E5.size n8.ext
  refine lw_nil ?_
  refine rk_seq ?_
  refine rk_reg ?_
  refine lw_v (.pointer (some ⟨b1, 0, none⟩)) (dv_fieldAddr (a := ⟨b1, 0, none⟩) (a' := ⟨b1, 0, none⟩) fo25_0 (T rfl rfl) rfl) ?_
  have H11 := (n8.ext.blk n3.blk)
  refine lw_v (.int .u64 a3) (dv_load1 (b := b1) (o := 0) agt22 (T rfl rfl) H11 rfl) ?_
  refine lw_v (.int .u64 (a3 / 9223372036854775808)) (dv_shr (a := a3) (b := 63) (z := a3 / 9223372036854775808) (T rfl rfl) C (by decide) (shr_c (n := 63) (by omega) (by decide))) ?_
  refine lw_v (.bool (decide ((a3 / 9223372036854775808) = 1))) (dv_eql (a := a3 / 9223372036854775808) (b := 1) (T rfl rfl) C) ?_
  refine lw_v (.bool (decide ((a3 / 9223372036854775808) = 1))) (dv_assign (T rfl rfl)) ?_
  refine lw_nil ?_
  refine rk_seq ?_
  refine rk_reg ?_
  refine lw_v (.pointer (some ⟨b1, 3, none⟩)) (dv_fieldAddr (a := ⟨b1, 0, none⟩) (a' := ⟨b1, 3, none⟩) fo25_3 (T rfl rfl) rfl) ?_
  refine lw_v (.int .u64 a0) (dv_load1 (b := b1) (o := 3) agt22 (T rfl rfl) H11 rfl) ?_
  refine lw_v (.int .u32 ((a0) % 4294967296)) (dv_conv (a := a0) (z := (a0) % 4294967296) ui22 ui115 (T rfl rfl) (wr_u32 _)) ?_
  refine lw_v (.pointer (some ⟨b1, 3, none⟩)) (dv_fieldAddr (a := ⟨b1, 0, none⟩) (a' := ⟨b1, 3, none⟩) fo25_3 (T rfl rfl) rfl) ?_
  refine lw_v (.int .u64 a0) (dv_load1 (b := b1) (o := 3) agt22 (T rfl rfl) H11 rfl) ?_
  refine lw_v (.int .u64 (a0 / 4294967296)) (dv_shr (a := a0) (b := 32) (z := a0 / 4294967296) (T rfl rfl) C (by decide) (shr_c (n := 32) (by omega) (by decide))) ?_
  refine lw_v (.int .u32 ((a0 / 4294967296) % 4294967296)) (dv_conv (a := a0 / 4294967296) (z := (a0 / 4294967296) % 4294967296) ui22 ui115 (T rfl rfl) (wr_u32 _)) ?_
  refine lw_v (.pointer (some ⟨b1, 2, none⟩)) (dv_fieldAddr (a := ⟨b1, 0, none⟩) (a' := ⟨b1, 2, none⟩) fo25_2 (T rfl rfl) rfl) ?_
  refine lw_v (.int .u64 a1) (dv_load1 (b := b1) (o := 2) agt22 (T rfl rfl) H11 rfl) ?_
  refine lw_v (.int .u32 ((a1) % 4294967296)) (dv_conv (a := a1) (z := (a1) % 4294967296) ui22 ui115 (T rfl rfl) (wr_u32 _)) ?_
  refine lw_v (.pointer (some ⟨b1, 2, none⟩)) (dv_fieldAddr (a := ⟨b1, 0, none⟩) (a' := ⟨b1, 2, none⟩) fo25_2 (T rfl rfl) rfl) ?_
  refine lw_v (.int .u64 a1) (dv_load1 (b := b1) (o := 2) agt22 (T rfl rfl) H11 rfl) ?_
  refine lw_v (.int .u64 (a1 / 4294967296)) (dv_shr (a := a1) (b := 32) (z := a1 / 4294967296) (T rfl rfl) C (by decide) (shr_c (n := 32) (by omega) (by decide))) ?_
  refine lw_v (.int .u32 ((a1 / 4294967296) % 4294967296)) (dv_conv (a := a1 / 4294967296) (z := (a1 / 4294967296) % 4294967296) ui22 ui115 (T rfl rfl) (wr_u32 _)) ?_
  refine lw_v (.pointer (some ⟨b1, 1, none⟩)) (dv_fieldAddr (a := ⟨b1, 0, none⟩) (a' := ⟨b1, 1, none⟩) fo25_1 (T rfl rfl) rfl) ?_
  refine lw_v (.int .u64 a2) (dv_load1 (b := b1) (o := 1) agt22 (T rfl rfl) H11 rfl) ?_
  refine lw_v (.int .u32 ((a2) % 4294967296)) (dv_conv (a := a2) (z := (a2) % 4294967296) ui22 ui115 (T rfl rfl) (wr_u32 _)) ?_
  refine lw_v (.pointer (some ⟨b1, 1, none⟩)) (dv_fieldAddr (a := ⟨b1, 0, none⟩) (a' := ⟨b1, 1, none⟩) fo25_1 (T rfl rfl) rfl) ?_
  refine lw_v (.int .u64 a2) (dv_load1 (b := b1) (o := 1) agt22 (T rfl rfl) H11 rfl) ?_
  refine lw_v (.int .u64 (a2 / 4294967296)) (dv_shr (a := a2) (b := 32) (z := a2 / 4294967296) (T rfl rfl) C (by decide) (shr_c (n := 32) (by omega) (by decide))) ?_
  refine lw_v (.int .u32 ((a2 / 4294967296) % 4294967296)) (dv_conv (a := a2 / 4294967296) (z := (a2 / 4294967296) % 4294967296) ui22 ui115 (T rfl rfl) (wr_u32 _)) ?_
  refine lw_v (.pointer (some ⟨b1, 0, none⟩)) (dv_fieldAddr (a := ⟨b1, 0, none⟩) (a' := ⟨b1, 0, none⟩) fo25_0 (T rfl rfl) rfl) ?_
  refine lw_v (.int .u64 a3) (dv_load1 (b := b1) (o := 0) agt22 (T rfl rfl) H11 rfl) ?_
  refine lw_v (.int .u32 ((a3) % 4294967296)) (dv_conv (a := a3) (z := (a3) % 4294967296) ui22 ui115 (T rfl rfl) (wr_u32 _)) ?_
  refine lw_v (.pointer (some ⟨b1, 0, none⟩)) (dv_fieldAddr (a := ⟨b1, 0, none⟩) (a' := ⟨b1, 0, none⟩) fo25_0 (T rfl rfl) rfl) ?_
  refine lw_v (.int .u64 a3) (dv_load1 (b := b1) (o := 0) agt22 (T rfl rfl) H11 rfl) ?_
  refine lw_v (.int .u64 (a3 / 4294967296)) (dv_shr (a := a3) (b := 32) (z := a3 / 4294967296) (T rfl rfl) C (by decide) (shr_c (n := 32) (by omega) (by decide))) ?_
  refine lw_v (.int .u32 ((a3 / 4294967296) % 4294967296)) (dv_conv (a := a3 / 4294967296) (z := (a3 / 4294967296) % 4294967296) ui22 ui115 (T rfl rfl) (wr_u32 _)) ?_
  refine lw_e (oe_buildSlice (pv := [(0, .int .u32 ((a0) % 4294967296)), (1, .int .u32 ((a0 / 4294967296) % 4294967296)), (2, .int .u32 ((a1) % 4294967296)), (3, .int .u32 ((a1 / 4294967296) % 4294967296)), (4, .int .u32 ((a2) % 4294967296)), (5, .int .u32 ((a2 / 4294967296) % 4294967296)), (6, .int .u32 ((a3) % 4294967296)), (7, .int .u32 ((a3 / 4294967296) % 4294967296))]) (init := [.int .u32 0, .int .u32 0, .int .u32 0, .int .u32 0, .int .u32 0, .int .u32 0, .int .u32 0, .int .u32 0]) (l := [.int .u32 ((a0) % 4294967296), .int .u32 ((a0 / 4294967296) % 4294967296), .int .u32 ((a1) % 4294967296), .int .u32 ((a1 / 4294967296) % 4294967296), .int .u32 ((a2) % 4294967296), .int .u32 ((a2 / 4294967296) % 4294967296), .int .u32 ((a3) % 4294967296), .int .u32 ((a3 / 4294967296) % 4294967296)]) us60 sz115 rfl rfl zc115 (by kernel_rfl) ⟨rfl, (T rfl rfl), ⟨rfl, (T rfl rfl), ⟨rfl, (T rfl rfl), ⟨rfl, (T rfl rfl), ⟨rfl, (T rfl rfl), ⟨rfl, (T rfl rfl), ⟨rfl, (T rfl rfl), ⟨rfl, (T rfl rfl), trivial⟩⟩⟩⟩⟩⟩⟩⟩ rfl ?_)
  intro b12 w13 n14
  have N15 : w.heap.size ≤ b12 := n14.eq ▸ E10.size
  have : b6 < b12 := n14.eq ▸ lt_of_blk n8.blk
  have E16 := below_ext E10 E10.size n14.ext
  refine lw_v (.slice (some ⟨b12, 0, none⟩) 8 8) (dv_assign (T rfl rfl)) ?_
  refine lw_nil ?_
  refine rk_seq ?_
  refine rk_seq ?_
  refine rk_reg ?_
  refine lw_v (.bool (decide ((a3 / 9223372036854775808) = 1))) (dv_move (T rfl rfl)) ?_
  refine lw_v (.bool (decide (¬ ((a3 / 9223372036854775808) = 1)))) (dv_notd (p := (a3 / 9223372036854775808) = 1) (T rfl rfl)) ?_
  refine lw_nil ?_
  by_cases hb17 : (a3 / 9223372036854775808) = 1
  · -- T
    refine rk_cf (T rfl (congrArg Value.bool (decide_eq_false (not_not_intro hb17)))) ?_
    refine rk_skip ?_
    refine rk_seq ?_
    refine rk_reg ?_
    refine lw_e (oe_buildSlice (pv := [(0, .int .u32 1)]) (init := [.int .u32 0]) (l := [.int .u32 1]) us60 sz115 rfl rfl zc115 (by kernel_rfl) ⟨rfl, C, trivial⟩ rfl ?_)
    intro b18 w19 n20
    have N21 : w.heap.size ≤ b18 := n20.eq ▸ E16.size
    have : b12 < b18 := n20.eq ▸ lt_of_blk n14.blk
    have E22 := below_ext E16 E16.size n20.ext
    refine lw_e (oe_callf (vs := [.slice (some ⟨b18, 0, none⟩) 1 1, .int .i64 256]) co91 (ar2 (T rfl rfl) C) (l1Left_ws (N := 256) (j := 256) (⟨[1], rfl, Nat.le_refl _, Wd.ownW n20.blk, (okW_lit (by simp <;> omega)), rfl⟩ : Ws _ _ _ _ _ _ _ _) (by first | omega | (simp; done) | (simp; omega)) (by first | omega | (simp; done) | (simp; omega)) (valB_sz (m := 32) (xs := [1]) (n := 1) (okW_lit (by simp <;> omega)) rfl) (by omega)) ?_)
    rintro _ w27 ⟨A23, n24, c25, rfl, e28, h26⟩
    have E29 := below_ext E22 E22.size e28
    have lh26 := Wc.len (by decide) h26 (left_sz (m := 256) (s := 32) rfl (valB_sz (m := 32) (xs := [1]) (n := 1) (okW_lit (by simp <;> omega)) rfl))
    refine lw_v (.slice (some ⟨b12, 0, none⟩) 8 8) (dv_move (T rfl rfl)) ?_
    have H30 := (e28.blk (n20.ext.blk n14.blk))
    refine lw_e (oe_callf (vs := [.slice A23 n24 c25, .slice (some ⟨b12, 0, none⟩) 8 8]) co90 (ar2 (T rfl rfl) (T rfl rfl)) (l1SubAbs_ws h26.ws (⟨[(a0) % 4294967296, (a0 / 4294967296) % 4294967296, (a1) % 4294967296, (a1 / 4294967296) % 4294967296, (a2) % 4294967296, (a2 / 4294967296) % 4294967296, (a3) % 4294967296, (a3 / 4294967296) % 4294967296], rfl, Nat.le_refl _, Wd.ownW H30, (okW_lit (by simp <;> omega)), rfl⟩ : Ws _ _ _ _ _ _ _ _) (by first | omega | (simp; done) | (simp; omega)) (by first | omega | (simp; done) | (simp; omega)) (by have q := Ws.lo (s := 256) h26.ws (by simp [valB]); omega) (by have q := (valB_sz (m := 32) (xs := [(a0) % 4294967296, (a0 / 4294967296) % 4294967296, (a1) % 4294967296, (a1 / 4294967296) % 4294967296, (a2) % 4294967296, (a2 / 4294967296) % 4294967296, (a3) % 4294967296, (a3 / 4294967296) % 4294967296]) (n := 8) (okW_lit (by simp <;> omega)) rfl); have e : (2 : Int) ^ 256 * valB (2 ^ 32) [1] = 2 ^ 256 := (by simp [valB]); omega)) ?_)
    rintro _ w35 ⟨A31, n32, c33, rfl, e36, h34, hnh34⟩
    have E37 := below_ext E29 E29.size e36
    refine lw_e (oe_callf (vs := [.bool true, .slice A31 n32 c33]) co89 (ar2 C (T rfl rfl)) (l1Trim_num (s := 288) (neg := true) h34 (by first | omega | (simp; done) | (simp; omega)) (sz_sub (left_sz (m := 256) (s := 32) rfl (valB_sz (m := 32) (xs := [1]) (n := 1) (okW_lit (by simp <;> omega)) rfl)) (Ws.nonneg (⟨[(a0) % 4294967296, (a0 / 4294967296) % 4294967296, (a1) % 4294967296, (a1 / 4294967296) % 4294967296, (a2) % 4294967296, (a2 / 4294967296) % 4294967296, (a3) % 4294967296, (a3 / 4294967296) % 4294967296], rfl, Nat.le_refl _, Wd.ownW H30, (okW_lit (by simp <;> omega)), rfl⟩ : Ws _ _ _ _ _ _ _ _)))) ?_)
    rintro _ w43 ⟨nb38, A39, n40, c41, rfl, e44, hn42⟩
    have E45 := below_ext E37 E37.size e44
    have lhn42 := Num.len (by decide) hn42
    have H46 := (e44.blk (e36.blk (e28.blk (n20.ext.blk (n14.ext.blk n8.blk)))))
    refine lw_e (oe_store (v := .agg #[.bool nb38, .slice A39 n40 c41]) (vs := [.bool nb38, .slice A39 n40 c41]) (l := [.bool nb38, .slice A39 n40 c41]) (T rfl rfl) (T rfl rfl) sz62 rfl rfl rfl H46 rfl ?_)
    intro w47 s48 H49
    have E50 := below_st E45 N9 s48
    refine lw_nil ?_
    refine rk_ret Try.func46 (v := .agg #[.bool nb38, .slice A39 n40 c41]) (res1 Try.results46 (rv_cells (l := [.bool nb38, .slice A39 n40 c41]) agt62 sz62 rfl rfl H49 rfl)) ⟨_, rfl, ?_⟩
    have h51 := (hn42.st s48 H46 (by decide))
    exact ⟨_, _, _, _, rfl, E50, h51.tight (wz_hi32 h3 h2 h1 h0 (by omega)) (wz_lt h3 h2 h1 h0)⟩
  · -- F
    refine rk_ct (T rfl (congrArg Value.bool (decide_eq_true hb17))) ?_
    refine rk_seq ?_
    refine rk_reg ?_
    refine lw_v (.slice (some ⟨b12, 0, none⟩) 8 8) (dv_move (T rfl rfl)) ?_
    refine lw_e (oe_callf (vs := [.bool false, .slice (some ⟨b12, 0, none⟩) 8 8]) co89 (ar2 C (T rfl rfl)) (l1Trim_num (s := 256) (neg := false) (⟨[(a0) % 4294967296, (a0 / 4294967296) % 4294967296, (a1) % 4294967296, (a1 / 4294967296) % 4294967296, (a2) % 4294967296, (a2 / 4294967296) % 4294967296, (a3) % 4294967296, (a3 / 4294967296) % 4294967296], rfl, Nat.le_refl _, Wd.ownW n14.blk, (okW_lit (by simp <;> omega)), rfl⟩ : Ws _ _ _ _ _ _ _ _) (by first | omega | (simp; done) | (simp; omega)) (valB_sz (m := 32) (xs := [(a0) % 4294967296, (a0 / 4294967296) % 4294967296, (a1) % 4294967296, (a1 / 4294967296) % 4294967296, (a2) % 4294967296, (a2 / 4294967296) % 4294967296, (a3) % 4294967296, (a3 / 4294967296) % 4294967296]) (n := 8) (okW_lit (by simp <;> omega)) rfl)) ?_)
    rintro _ w57 ⟨nb52, A53, n54, c55, rfl, e58, hn56⟩
    have E59 := below_ext E16 E16.size e58
    have lhn56 := Num.len (by decide) hn56
    have H60 := (e58.blk (n14.ext.blk n8.blk))
    refine lw_e (oe_store (v := .agg #[.bool nb52, .slice A53 n54 c55]) (vs := [.bool nb52, .slice A53 n54 c55]) (l := [.bool nb52, .slice A53 n54 c55]) (T rfl rfl) (T rfl rfl) sz62 rfl rfl rfl H60 rfl ?_)
    intro w61 s62 H63
    have E64 := below_st E59 N9 s62
    refine lw_nil ?_
    refine rk_ret Try.func46 (v := .agg #[.bool nb52, .slice A53 n54 c55]) (res1 Try.results46 (rv_cells (l := [.bool nb52, .slice A53 n54 c55]) agt62 sz62 rfl rfl H63 rfl)) ⟨_, rfl, ?_⟩
    have h65 := (hn56.st s62 H60 (by decide))
    exact ⟨_, _, _, _, rfl, E64, h65.tight (wz_lo32 h3 h2 h1 h0 (by omega)) (wz_lt h3 h2 h1 h0)⟩

theorem l1Fromz_ok {w : World} {z : Int} (hz : fits z) : Ct Try.prog 46 [.agg #[.int .u64 (wv3 z), .int .u64 (wv2 z), .int .u64 (wv1 z), .int .u64 (wv0 z)]] w fun v w1 => ∃ nr A' n c', v = .agg #[.bool nr, .slice A' n c'] ∧ Ext w w1 ∧ Num 32 115 .u32 w1 nr A' n c' z 256 := by
  have h := l1From_ok (w := w) (w_rg z).1 (w_rg z).2.1 (w_rg z).2.2.1 (w_rg z).2.2.2
  rw [wz_w hz] at h
  exact h

end Go.Proofs.Ytpnjkjahfklfnaa.W
