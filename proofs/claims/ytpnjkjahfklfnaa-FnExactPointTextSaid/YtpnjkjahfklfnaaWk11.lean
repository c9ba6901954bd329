/- Wk11: walks, written by a program of this session. -/
import Derived.Test.YtpnjkjahfklfnaaWk8
import Derived.Test.YtpnjkjahfklfnaaMa6
import Derived.Test.YtpnjkjahfklfnaaFw12
import Derived.Test.YtpnjkjahfklfnaaSh
set_option linter.unusedVariables false
set_option linter.unusedSimpArgs false
namespace Go.Proofs.Ytpnjkjahfklfnaa.W
open Go Go.RowKit Go.Proofs.Ytpnjkjahfklfnaa.Fw
attribute [local irreducible] RunK LW AW DV OE Ct
theorem co97 : callOk Try.prog 97 = true := by kernel_rfl
theorem mul64_ok {w : World} {x y : Int} (hx : 0 ≤ x ∧ x < 18446744073709551616) (hy : 0 ≤ y ∧ y < 18446744073709551616) : Ct Try.prog 97 [.int .u64 x, .int .u64 y] w fun v w1 => v = .tuple #[.int .u64 (x * y / 18446744073709551616), .int .u64 (x * y % 18446744073709551616)] ∧ Ext w w1 := by
  unfold Ct
  obtain ⟨X, rfl⟩ := Int.eq_ofNat_of_zero_le hx.1
  obtain ⟨Y, rfl⟩ := Int.eq_ofNat_of_zero_le hy.1
  exact Calls.mono (Try.bits_Mul64 X Y (by omega) (by omega) w) fun e w' ⟨he, hw⟩ => ⟨_, he, rfl, by subst hw; exact Below.refl _ _⟩
set_option maxHeartbeats 1000000 in
theorem nby_ok {w : World} {na : Bool} {Aa : Option Addr} {la ca : Nat} {x : Int} {sx : Nat} (ha : Num 64 22 .u64 w na Aa la ca x sx) {nb : Bool} {Ab : Option Addr} {lb cb : Nat} {y : Int} {sy : Nat} (hb : Num 64 22 .u64 w nb Ab lb cb y sy) (hs : sx ≤ 200000) (hs2 : sy ≤ 200000) : Ct Try.prog 55 [.agg #[.bool na, .slice Aa la ca], .agg #[.bool nb, .slice Ab lb cb]] w fun v w1 => ∃ nr A' n c', v = .agg #[.bool nr, .slice A' n c'] ∧ Ext w w1 ∧ Num 64 22 .u64 w1 nr A' n c' (x * y) (sx + sy) := by
  refine ct_run (n := 100) Try.func55 rfl Try.ntmps55 rfl ?_
  have E0 : Below w.heap.size w w := Below.refl _ _
  have lha := Num.len (by decide) ha
  have lhb := Num.len (by decide) hb
  obtain ⟨xs, hxl, hxc, hxw, ox, hxk, hxv⟩ := ha.wc
  obtain ⟨ys, hyl, hyc, hyw, oy, hyk, hyv⟩ := hb.wc
  refine rk_seq ?_
  refine rk_reg ?_
  refine lw_e (oe_box (v := .agg #[.bool na, .slice Aa la ca]) (cs := #[.bool na, .slice Aa la ca]) (T rfl rfl) rfl ?_)
  intro b1 w2 n3
  have N4 : w.heap.size ≤ b1 := n3.eq ▸ E0.size
  have E5 := below_ext E0 E0.size n3.ext
  refine lw_e (oe_box (v := .agg #[.bool nb, .slice Ab lb cb]) (cs := #[.bool nb, .slice Ab lb cb]) (T rfl rfl) rfl ?_)
  intro b6 w7 n8
  have N9 : w.heap.size ≤ b6 := n8.eq ▸ E5.size
  have : b1 < b6 := n8.eq ▸ lt_of_blk n3.blk
  have E10 := below_ext E5 E5.size n8.ext
  refine lw_e (oe_alloc ze69 ?_)
  intro b11 w12 n13
  have N14 : w.heap.size ≤ b11 := n13.eq ▸ E10.size
  have : b6 < b11 := n13.eq ▸ lt_of_blk n8.blk
  have E15 := below_ext E10 E10.size n13.ext
  refine lw_nil ?_
  refine rk_seq ?_
  refine rk_seq ?_
  refine rk_reg ?_
  refine lw_v (.pointer (some ⟨b1, 1, none⟩)) (dv_fieldAddr (a := ⟨b1, 0, none⟩) (a' := ⟨b1, 1, none⟩) fo69_1 (T rfl rfl) rfl) ?_
  have H16 := (n13.ext.blk (n8.ext.blk n3.blk))
  refine lw_v (.slice Aa la ca) (dv_load1 (b := b1) (o := 1) agt67 (T rfl rfl) H16 rfl) ?_
  refine lw_v (.int .i64 ((la : Int))) (dv_len (ad := Aa) (l := la) (c := ca) us67 (T rfl rfl)) ?_
  refine lw_v (.bool (decide (((la : Int)) = 0))) (dv_eql (a := (la : Int)) (b := 0) (T rfl rfl) C) ?_
  refine lw_v (.bool (decide (((la : Int)) = 0))) (dv_move (T rfl rfl)) ?_
  by_cases hb17 : ((la : Int)) = 0
  · -- T
    refine lw_no (d := 18) rfl rfl (congrArg Value.bool (decide_eq_true hb17)) ?_
    refine lw_no (d := 18) rfl rfl (congrArg Value.bool (decide_eq_true hb17)) ?_
    refine lw_no (d := 18) rfl rfl (congrArg Value.bool (decide_eq_true hb17)) ?_
    refine lw_no (d := 18) rfl rfl (congrArg Value.bool (decide_eq_true hb17)) ?_
    refine lw_v (.bool true) (dv_pick_t (T rfl (congrArg Value.bool (decide_eq_true hb17))) C) ?_
    refine lw_nil ?_
    refine rk_ct (T rfl rfl) ?_
    refine rk_seq ?_
    refine rk_reg ?_
    refine lw_v (.agg #[.bool false, .slice none 0 0]) (dv_build (pv := []) (l := [.bool false, .slice none 0 0]) zc69 pl69 trivial rfl) ?_
    refine lw_e (oe_store (v := .agg #[.bool false, .slice none 0 0]) (vs := [.bool false, .slice none 0 0]) (l := [.bool false, .slice none 0 0]) (T rfl rfl) (T rfl rfl) sz69 rfl rfl rfl n13.blk rfl ?_)
    intro w18 s19 H20
    have E21 := below_st E15 N14 s19
    refine lw_nil ?_
    refine rk_ret Try.func55 (v := .agg #[.bool false, .slice none 0 0]) (res1 Try.results55 (rv_cells (l := [.bool false, .slice none 0 0]) agt69 sz69 rfl rfl H20 rfl)) ⟨_, rfl, ?_⟩
    exact ⟨_, _, _, _, rfl, E21, (Num.zero (s := 0)).tight (by have h1 := ha.pos_iff; have h2 := hb.pos_iff; exact (mul_zero_of (by omega)).symm) (by rw [Int.natAbs_mul]; exact nat_mul_sz ha.lt hb.lt)⟩
  · -- F
    refine lw_vy (.pointer (some ⟨b6, 1, none⟩)) (d := 18) rfl rfl (congrArg Value.bool (decide_eq_false hb17)) (dv_fieldAddr (a := ⟨b6, 0, none⟩) (a' := ⟨b6, 1, none⟩) fo69_1 (T rfl rfl) rfl) ?_
    have H22 := (n13.ext.blk n8.blk)
    refine lw_vy (.slice Ab lb cb) (d := 18) rfl rfl (congrArg Value.bool (decide_eq_false hb17)) (dv_load1 (b := b6) (o := 1) agt67 (T rfl rfl) H22 rfl) ?_
    refine lw_vy (.int .i64 ((lb : Int))) (d := 18) rfl rfl (congrArg Value.bool (decide_eq_false hb17)) (dv_len (ad := Ab) (l := lb) (c := cb) us67 (T rfl rfl)) ?_
    refine lw_vy (.bool (decide (((lb : Int)) = 0))) (d := 18) rfl rfl (congrArg Value.bool (decide_eq_false hb17)) (dv_eql (a := (lb : Int)) (b := 0) (T rfl rfl) C) ?_
    refine lw_v (.bool (decide (((lb : Int)) = 0))) (dv_pick_f (T rfl (congrArg Value.bool (decide_eq_false hb17))) (T rfl rfl)) ?_
    refine lw_nil ?_
    by_cases hb23 : ((lb : Int)) = 0
    · -- FT
      refine rk_ct (T rfl (congrArg Value.bool (decide_eq_true hb23))) ?_
      refine rk_seq ?_
      refine rk_reg ?_
      refine lw_v (.agg #[.bool false, .slice none 0 0]) (dv_build (pv := []) (l := [.bool false, .slice none 0 0]) zc69 pl69 trivial rfl) ?_
      refine lw_e (oe_store (v := .agg #[.bool false, .slice none 0 0]) (vs := [.bool false, .slice none 0 0]) (l := [.bool false, .slice none 0 0]) (T rfl rfl) (T rfl rfl) sz69 rfl rfl rfl n13.blk rfl ?_)
      intro w24 s25 H26
      have E27 := below_st E15 N14 s25
      refine lw_nil ?_
      refine rk_ret Try.func55 (v := .agg #[.bool false, .slice none 0 0]) (res1 Try.results55 (rv_cells (l := [.bool false, .slice none 0 0]) agt69 sz69 rfl rfl H26 rfl)) ⟨_, rfl, ?_⟩
      exact ⟨_, _, _, _, rfl, E27, (Num.zero (s := 0)).tight (by have h1 := ha.pos_iff; have h2 := hb.pos_iff; exact (mul_zero_of (by omega)).symm) (by rw [Int.natAbs_mul]; exact nat_mul_sz ha.lt hb.lt)⟩
    · -- FF
      refine rk_cf (T rfl (congrArg Value.bool (decide_eq_false hb23))) ?_
      refine rk_skip ?_
      refine rk_seq ?_
      refine rk_reg ?_
      refine lw_v (.pointer (some ⟨b1, 1, none⟩)) (dv_fieldAddr (a := ⟨b1, 0, none⟩) (a' := ⟨b1, 1, none⟩) fo69_1 (T rfl rfl) rfl) ?_
      refine lw_v (.slice Aa la ca) (dv_load1 (b := b1) (o := 1) agt67 (T rfl rfl) H16 rfl) ?_
      refine lw_v (.int .i64 ((la : Int))) (dv_len (ad := Aa) (l := la) (c := ca) us67 (T rfl rfl)) ?_
      refine lw_v (.pointer (some ⟨b6, 1, none⟩)) (dv_fieldAddr (a := ⟨b6, 0, none⟩) (a' := ⟨b6, 1, none⟩) fo69_1 (T rfl rfl) rfl) ?_
      refine lw_v (.slice Ab lb cb) (dv_load1 (b := b6) (o := 1) agt67 (T rfl rfl) H22 rfl) ?_
      refine lw_v (.int .i64 ((lb : Int))) (dv_len (ad := Ab) (l := lb) (c := cb) us67 (T rfl rfl)) ?_
      refine lw_v (.int .i64 (((la : Int)) + ((lb : Int)))) (dv_add (a := (la : Int)) (b := (lb : Int)) (z := ((la : Int)) + ((lb : Int))) (T rfl rfl) (T rfl rfl) (wr_i64 (by omega) (by omega))) ?_
      refine lw_e (oe_makeW (l := ((la) + (lb))) (j := ((la : Int)) + ((lb : Int))) us67 in22 (T rfl rfl) (T rfl rfl) (by omega) (by first | omega | (simp; done) | (simp; omega)) (by first | omega | (simp; done) | (simp; omega)) ?_)
      intro b28 w29 n30
      have N31 : w.heap.size ≤ b28 := n30.eq ▸ E15.size
      have : b11 < b28 := n30.eq ▸ lt_of_blk n13.blk
      have E32 := below_ext E15 E15.size n30.ext
      refine lw_v (.slice (some ⟨b28, 0, none⟩) (((la) + (lb))) (((la) + (lb)))) (dv_assign (T rfl rfl)) ?_
      refine lw_nil ?_
      refine rk_seq ?_
      refine rk_seq ?_
      refine rk_reg ?_
      refine lw_v (.pointer (some ⟨b1, 1, none⟩)) (dv_fieldAddr (a := ⟨b1, 0, none⟩) (a' := ⟨b1, 1, none⟩) fo69_1 (T rfl rfl) rfl) ?_
      have H33 := (n30.ext.blk H16)
      refine lw_v (.slice Aa la ca) (dv_load1 (b := b1) (o := 1) agt67 (T rfl rfl) H33 rfl) ?_
      refine lw_v (.int .i64 ((la : Int))) (dv_len (ad := Aa) (l := la) (c := ca) us67 (T rfl rfl)) ?_
      refine lw_v (.int .i64 0) (dv_move C) ?_
      refine lw_nil ?_
      refine rk_block ?_
      have H34 := (n30.ext.blk H22)
      have H35 := (n30.ext.blk n13.blk)
      refine rk_loop (fun dm_ fr wl => ∃ (i : Nat) (L : List Int), dm_ = xs.length - i ∧ fr 2 = .pointer (some ⟨b1, 0, none⟩) ∧ fr 3 = .pointer (some ⟨b6, 0, none⟩) ∧ fr 4 = .pointer (some ⟨b11, 0, none⟩) ∧ fr 5 = .slice (some ⟨b28, 0, none⟩) (((la) + (lb))) (((la) + (lb))) ∧ fr 34 = .slice Aa la ca ∧ fr 35 = .int .i64 ((la : Int)) ∧ fr 36 = .int .i64 ((i : Int)) ∧ Below w.heap.size w wl ∧ wl.heap[b1]? = some (.cells #[.bool na, .slice Aa la ca] 69) ∧ wl.heap[b6]? = some (.cells #[.bool nb, .slice Ab lb cb] 69) ∧ wl.heap[b11]? = some (.cells #[.bool false, .slice none 0 0] 69) ∧ wl.heap[b28]? = some (.cells (L.map (Value.int .u64)).toArray 22) ∧ (i ≤ xs.length) ∧ (L.length = xs.length + ys.length) ∧ (okW (2 ^ 64) L) ∧ (valB (2 ^ 64) L = valB (2 ^ 64) (xs.take i) * valB (2 ^ 64) ys) ∧ (∀ q, i + ys.length ≤ q → L.getD q 0 = 0)) (xs.length - 0) ⟨0, (List.replicate (((la) + (lb))) (0 : Int)), rfl, rfl, rfl, rfl, rfl, rfl, rfl, (vi (by omega)), E32, H33, H34, H35, n30.blk, (Nat.zero_le _), (by simp; omega), (okW.replicate (by decide) _), (by rw [valB_zeros, List.take_zero]; simp [valB]), (fun q _ => rep_zero _ q)⟩ ?_
      intro d40 fr39 w36 hI37 ih38
      obtain ⟨i, L, hd53, f41, f42, f43, f44, f45, f46, f47, E48, H49, H50, H51, H52, hi, hl, hok, hv, hL0⟩ := hI37
      have bxs := okW.getD ox (by decide) i
      refine rk_seq ?_
      refine rk_reg ?_
      refine lw_v (.bool (decide (((i : Int)) < ((la : Int))))) (dv_lss (a := (i : Int)) (b := (la : Int)) (T rfl f47) (T rfl f46)) ?_
      refine lw_nil ?_
      refine rk_seq ?_
      by_cases hb54 : ((i : Int)) < ((la : Int))
      · -- FFLT
        refine rk_ct (T rfl (congrArg Value.bool (decide_eq_true hb54))) ?_
        refine rk_skip ?_
        refine rk_seq ?_
        refine rk_block ?_
        refine rk_seq ?_
        refine rk_reg ?_
        refine lw_v (.int .i64 ((i : Int))) (dv_move (T rfl f47)) ?_
        have h55 := (hxw.ext E48)
        obtain ⟨g56, o57, rfl⟩ := Wd.at h55 (by first | omega | (simp; done) | (simp; omega))
        refine lw_v (.pointer (some ⟨g56, o57 + i, none⟩)) (dv_indexW (g := g56) (o := o57) (l := la) (c := ca) (i := i) (j := (i : Int)) us67 sz22 (T rfl f45) (T rfl f47) (by omega) (by first | omega | (simp; done) | (simp; omega))) ?_
        refine lw_v (.int .u64 (xs.getD i 0)) (dv_load agt22 (T rfl rfl) (Wd.cell h55 (by first | omega | (simp; done) | (simp; omega)))) ?_
        refine lw_v (.int .i64 ((i : Int))) (dv_assign (T rfl rfl)) ?_
        refine lw_v (.int .u64 (xs.getD i 0)) (dv_assign (T rfl rfl)) ?_
        refine lw_nil ?_
        refine rk_seq ?_
        refine rk_reg ?_
        refine lw_v (.int .u64 0) (dv_assign C) ?_
        refine lw_nil ?_
        refine rk_seq ?_
        refine rk_seq ?_
        refine rk_reg ?_
        refine lw_v (.pointer (some ⟨b6, 1, none⟩)) (dv_fieldAddr (a := ⟨b6, 0, none⟩) (a' := ⟨b6, 1, none⟩) fo69_1 (T rfl f42) rfl) ?_
        refine lw_v (.slice Ab lb cb) (dv_load1 (b := b6) (o := 1) agt67 (T rfl rfl) H50 rfl) ?_
        refine lw_v (.int .i64 ((lb : Int))) (dv_len (ad := Ab) (l := lb) (c := cb) us67 (T rfl rfl)) ?_
        refine lw_v (.int .i64 0) (dv_move C) ?_
        refine lw_nil ?_
        refine rk_block ?_
        refine rk_loop (fun dm_ fr wl => ∃ (k : Nat) (M : List Int) (cy : Int), dm_ = ys.length - k ∧ fr 2 = .pointer (some ⟨b1, 0, none⟩) ∧ fr 3 = .pointer (some ⟨b6, 0, none⟩) ∧ fr 4 = .pointer (some ⟨b11, 0, none⟩) ∧ fr 5 = .slice (some ⟨b28, 0, none⟩) (((la) + (lb))) (((la) + (lb))) ∧ fr 6 = .int .i64 ((i : Int)) ∧ fr 7 = .int .u64 (xs.getD i 0) ∧ fr 8 = .int .u64 cy ∧ fr 34 = .slice (some ⟨g56, o57, none⟩) la ca ∧ fr 35 = .int .i64 ((la : Int)) ∧ fr 36 = .int .i64 ((i : Int)) ∧ fr 37 = .bool (decide (((i : Int)) < ((la : Int)))) ∧ fr 38 = .int .i64 ((i : Int)) ∧ fr 39 = .pointer (some ⟨g56, o57 + i, none⟩) ∧ fr 40 = .int .u64 (xs.getD i 0) ∧ fr 41 = .pointer (some ⟨b6, 1, none⟩) ∧ fr 42 = .slice Ab lb cb ∧ fr 43 = .int .i64 ((lb : Int)) ∧ fr 44 = .int .i64 ((k : Int)) ∧ Below w.heap.size w wl ∧ wl.heap[b1]? = some (.cells #[.bool na, .slice (some ⟨g56, o57, none⟩) la ca] 69) ∧ wl.heap[b6]? = some (.cells #[.bool nb, .slice Ab lb cb] 69) ∧ wl.heap[b11]? = some (.cells #[.bool false, .slice none 0 0] 69) ∧ wl.heap[b28]? = some (.cells (M.map (Value.int .u64)).toArray 22) ∧ (k ≤ ys.length) ∧ (M.length = xs.length + ys.length) ∧ (okW (2 ^ 64) M) ∧ (0 ≤ cy ∧ cy < 18446744073709551616) ∧ (valB (2 ^ 64) M + cy * (2 ^ 64) ^ (i + k) = valB (2 ^ 64) (xs.take i) * valB (2 ^ 64) ys + xs.getD i 0 * valB (2 ^ 64) (ys.take k) * (2 ^ 64) ^ i) ∧ (∀ q, i + ys.length ≤ q → M.getD q 0 = 0)) (ys.length - 0) ⟨0, L, 0, rfl, f41, f42, f43, f44, rfl, rfl, rfl, f45, f46, f47, rfl, rfl, rfl, rfl, rfl, rfl, rfl, (vi (by omega)), E48, H49, H50, H51, H52, (Nat.zero_le _), hl, hok, (by decide), (mul_start hv), hL0⟩ ?_
        intro d62 fr61 w58 hI59 ih60
        obtain ⟨k, M, cy, hd86, f63, f64, f65, f66, f67, f68, f69, f70, f71, f72, f73, f74, f75, f76, f77, f78, f79, f80, E81, H82, H83, H84, H85, hk, hMl, hok2, hcy, hM, hM0⟩ := hI59
        have bys := okW.getD oy (by decide) k
        have bMk := okW.getD hok2 (by decide) (i + k)
        refine rk_seq ?_
        refine rk_reg ?_
        refine lw_v (.bool (decide (((k : Int)) < ((lb : Int))))) (dv_lss (a := (k : Int)) (b := (lb : Int)) (T rfl f80) (T rfl f79)) ?_
        refine lw_nil ?_
        refine rk_seq ?_
        by_cases hb87 : ((k : Int)) < ((lb : Int))
        · -- FFLTLT
          refine rk_ct (T rfl (congrArg Value.bool (decide_eq_true hb87))) ?_
          refine rk_skip ?_
          refine rk_seq ?_
          refine rk_block ?_
          refine rk_seq ?_
          refine rk_reg ?_
          refine lw_v (.int .i64 ((k : Int))) (dv_move (T rfl f80)) ?_
          have h88 := (hyw.ext E81)
          obtain ⟨g89, o90, rfl⟩ := Wd.at h88 (by first | omega | (simp; done) | (simp; omega))
          refine lw_v (.pointer (some ⟨g89, o90 + k, none⟩)) (dv_indexW (g := g89) (o := o90) (l := lb) (c := cb) (i := k) (j := (k : Int)) us67 sz22 (T rfl f78) (T rfl f80) (by omega) (by first | omega | (simp; done) | (simp; omega))) ?_
          refine lw_v (.int .u64 (ys.getD k 0)) (dv_load agt22 (T rfl rfl) (Wd.cell h88 (by first | omega | (simp; done) | (simp; omega)))) ?_
          refine lw_v (.int .i64 ((k : Int))) (dv_assign (T rfl rfl)) ?_
          refine lw_v (.int .u64 (ys.getD k 0)) (dv_assign (T rfl rfl)) ?_
          refine lw_nil ?_
          refine rk_seq ?_
          refine rk_reg ?_
          refine lw_v (.int .u64 (xs.getD i 0)) (dv_move (T rfl f68)) ?_
          refine lw_v (.int .u64 (ys.getD k 0)) (dv_move (T rfl rfl)) ?_
          have hm91 := mul_pos_bd (A := 18446744073709551615) (show 0 ≤ xs.getD i 0 by omega) (by omega) (show 0 ≤ ys.getD k 0 by omega) (by omega)
          refine lw_e (oe_callf (vs := [.int .u64 (xs.getD i 0), .int .u64 (ys.getD k 0)]) co97 (ar2 (T rfl rfl) (T rfl rfl)) (mul64_ok (by omega) (by omega)) ?_)
          rintro _ w92 ⟨rfl, e93⟩
          have E94 := below_ext E81 E81.size e93
          refine lw_v (.tuple #[.int .u64 ((xs.getD i 0) * (ys.getD k 0) / 18446744073709551616), .int .u64 ((xs.getD i 0) * (ys.getD k 0) % 18446744073709551616)]) (dv_move (T rfl rfl)) ?_
          refine lw_v (.int .u64 ((xs.getD i 0) * (ys.getD k 0) / 18446744073709551616)) (dv_extract (vs := #[.int .u64 ((xs.getD i 0) * (ys.getD k 0) / 18446744073709551616), .int .u64 ((xs.getD i 0) * (ys.getD k 0) % 18446744073709551616)]) (T rfl rfl) rfl) ?_
          refine lw_v (.int .u64 ((xs.getD i 0) * (ys.getD k 0) % 18446744073709551616)) (dv_extract (vs := #[.int .u64 ((xs.getD i 0) * (ys.getD k 0) / 18446744073709551616), .int .u64 ((xs.getD i 0) * (ys.getD k 0) % 18446744073709551616)]) (T rfl rfl) rfl) ?_
          refine lw_v (.int .u64 ((xs.getD i 0) * (ys.getD k 0) / 18446744073709551616)) (dv_assign (T rfl rfl)) ?_
          refine lw_v (.int .u64 ((xs.getD i 0) * (ys.getD k 0) % 18446744073709551616)) (dv_assign (T rfl rfl)) ?_
          refine lw_nil ?_
          refine rk_seq ?_
          refine rk_reg ?_
          refine lw_v (.int .u64 0) (dv_assign C) ?_
          refine lw_nil ?_
          refine rk_seq ?_
          refine rk_reg ?_
          refine lw_v (.int .u64 ((xs.getD i 0) * (ys.getD k 0) % 18446744073709551616)) (dv_move (T rfl rfl)) ?_
          refine lw_v (.int .u64 cy) (dv_move (T rfl f69)) ?_
          refine lw_v (.tuple #[.int .u64 ((((xs.getD i 0) * (ys.getD k 0) % 18446744073709551616) + cy + 0) % 18446744073709551616), .int .u64 ((((xs.getD i 0) * (ys.getD k 0) % 18446744073709551616) + cy + 0) / 18446744073709551616)]) (dv_ext (e := add64Entry) (vs := [.int .u64 ((xs.getD i 0) * (ys.getD k 0) % 18446744073709551616), .int .u64 cy, .int .u64 0]) Try.func98 rfl rfl (by kernel_rfl) (by kernel_rfl) (ar3 (T rfl rfl) (T rfl rfl) C) (run_addE ((xs.getD i 0) * (ys.getD k 0) % 18446744073709551616) cy 0 (by omega) (by omega) (by omega))) ?_
          refine lw_v (.tuple #[.int .u64 ((((xs.getD i 0) * (ys.getD k 0) % 18446744073709551616) + cy + 0) % 18446744073709551616), .int .u64 ((((xs.getD i 0) * (ys.getD k 0) % 18446744073709551616) + cy + 0) / 18446744073709551616)]) (dv_move (T rfl rfl)) ?_
          refine lw_v (.int .u64 ((((xs.getD i 0) * (ys.getD k 0) % 18446744073709551616) + cy + 0) % 18446744073709551616)) (dv_extract (vs := #[.int .u64 ((((xs.getD i 0) * (ys.getD k 0) % 18446744073709551616) + cy + 0) % 18446744073709551616), .int .u64 ((((xs.getD i 0) * (ys.getD k 0) % 18446744073709551616) + cy + 0) / 18446744073709551616)]) (T rfl rfl) rfl) ?_
          refine lw_v (.int .u64 ((((xs.getD i 0) * (ys.getD k 0) % 18446744073709551616) + cy + 0) / 18446744073709551616)) (dv_extract (vs := #[.int .u64 ((((xs.getD i 0) * (ys.getD k 0) % 18446744073709551616) + cy + 0) % 18446744073709551616), .int .u64 ((((xs.getD i 0) * (ys.getD k 0) % 18446744073709551616) + cy + 0) / 18446744073709551616)]) (T rfl rfl) rfl) ?_
          refine lw_v (.int .u64 ((((xs.getD i 0) * (ys.getD k 0) % 18446744073709551616) + cy + 0) % 18446744073709551616)) (dv_assign (T rfl rfl)) ?_
          refine lw_v (.int .u64 ((((xs.getD i 0) * (ys.getD k 0) % 18446744073709551616) + cy + 0) / 18446744073709551616)) (dv_assign (T rfl rfl)) ?_
          refine lw_nil ?_
          refine rk_seq ?_
          refine rk_reg ?_
          refine lw_v (.int .u64 ((xs.getD i 0) * (ys.getD k 0) / 18446744073709551616)) (dv_move (T rfl rfl)) ?_
          refine lw_v (.int .u64 ((((xs.getD i 0) * (ys.getD k 0) % 18446744073709551616) + cy + 0) / 18446744073709551616)) (dv_move (T rfl rfl)) ?_
          refine lw_v (.int .u64 (((xs.getD i 0) * (ys.getD k 0) / 18446744073709551616) + ((((xs.getD i 0) * (ys.getD k 0) % 18446744073709551616) + cy + 0) / 18446744073709551616))) (dv_add (a := (xs.getD i 0) * (ys.getD k 0) / 18446744073709551616) (b := (((xs.getD i 0) * (ys.getD k 0) % 18446744073709551616) + cy + 0) / 18446744073709551616) (z := ((xs.getD i 0) * (ys.getD k 0) / 18446744073709551616) + ((((xs.getD i 0) * (ys.getD k 0) % 18446744073709551616) + cy + 0) / 18446744073709551616)) (T rfl rfl) (T rfl rfl) (wn_u64 (by omega) (by omega))) ?_
          refine lw_v (.int .u64 (((xs.getD i 0) * (ys.getD k 0) / 18446744073709551616) + ((((xs.getD i 0) * (ys.getD k 0) % 18446744073709551616) + cy + 0) / 18446744073709551616))) (dv_assign (T rfl rfl)) ?_
          refine lw_nil ?_
          refine rk_seq ?_
          refine rk_reg ?_
          refine lw_v (.slice (some ⟨b28, 0, none⟩) (((la) + (lb))) (((la) + (lb)))) (dv_move (T rfl f66)) ?_
          refine lw_v (.int .i64 ((i : Int))) (dv_move (T rfl f67)) ?_
          refine lw_v (.int .i64 ((k : Int))) (dv_move (T rfl rfl)) ?_
          refine lw_v (.int .i64 (((i : Int)) + ((k : Int)))) (dv_add (a := (i : Int)) (b := (k : Int)) (z := ((i : Int)) + ((k : Int))) (T rfl rfl) (T rfl rfl) (wr_i64 (by omega) (by omega))) ?_
          refine lw_v (.slice (some ⟨b28, 0, none⟩) (((la) + (lb))) (((la) + (lb)))) (dv_move (T rfl f66)) ?_
          refine lw_v (.int .i64 ((i : Int))) (dv_move (T rfl f67)) ?_
          refine lw_v (.int .i64 ((k : Int))) (dv_move (T rfl rfl)) ?_
          refine lw_v (.int .i64 (((i : Int)) + ((k : Int)))) (dv_add (a := (i : Int)) (b := (k : Int)) (z := ((i : Int)) + ((k : Int))) (T rfl rfl) (T rfl rfl) (wr_i64 (by omega) (by omega))) ?_
          refine lw_v (.pointer (some ⟨b28, (((i) + (k))), none⟩)) (dv_indexO (g := b28) (l := ((la) + (lb))) (c := ((la) + (lb))) (i := ((i) + (k))) (j := ((i : Int)) + ((k : Int))) us67 sz22 (T rfl rfl) (T rfl rfl) (by omega) (by first | omega | (simp; done) | (simp; omega))) ?_
          have H95 := (e93.blk H85)
          refine lw_v (.int .u64 (M.getD (((i) + (k))) 0)) (dv_loadW (L := M) (v := M.getD (((i) + (k))) 0) agt22 (T rfl rfl) H95 (by first | omega | (simp; done) | (simp; omega)) rfl) ?_
          refine lw_v (.int .u64 ((((xs.getD i 0) * (ys.getD k 0) % 18446744073709551616) + cy + 0) % 18446744073709551616)) (dv_move (T rfl rfl)) ?_
          refine lw_v (.tuple #[.int .u64 (((M.getD (((i) + (k))) 0) + ((((xs.getD i 0) * (ys.getD k 0) % 18446744073709551616) + cy + 0) % 18446744073709551616) + 0) % 18446744073709551616), .int .u64 (((M.getD (((i) + (k))) 0) + ((((xs.getD i 0) * (ys.getD k 0) % 18446744073709551616) + cy + 0) % 18446744073709551616) + 0) / 18446744073709551616)]) (dv_ext (e := add64Entry) (vs := [.int .u64 (M.getD (((i) + (k))) 0), .int .u64 ((((xs.getD i 0) * (ys.getD k 0) % 18446744073709551616) + cy + 0) % 18446744073709551616), .int .u64 0]) Try.func98 rfl rfl (by kernel_rfl) (by kernel_rfl) (ar3 (T rfl rfl) (T rfl rfl) C) (run_addE (M.getD (((i) + (k))) 0) ((((xs.getD i 0) * (ys.getD k 0) % 18446744073709551616) + cy + 0) % 18446744073709551616) 0 (by omega) (by omega) (by omega))) ?_
          refine lw_v (.tuple #[.int .u64 (((M.getD (((i) + (k))) 0) + ((((xs.getD i 0) * (ys.getD k 0) % 18446744073709551616) + cy + 0) % 18446744073709551616) + 0) % 18446744073709551616), .int .u64 (((M.getD (((i) + (k))) 0) + ((((xs.getD i 0) * (ys.getD k 0) % 18446744073709551616) + cy + 0) % 18446744073709551616) + 0) / 18446744073709551616)]) (dv_move (T rfl rfl)) ?_
          refine lw_v (.int .u64 (((M.getD (((i) + (k))) 0) + ((((xs.getD i 0) * (ys.getD k 0) % 18446744073709551616) + cy + 0) % 18446744073709551616) + 0) % 18446744073709551616)) (dv_extract (vs := #[.int .u64 (((M.getD (((i) + (k))) 0) + ((((xs.getD i 0) * (ys.getD k 0) % 18446744073709551616) + cy + 0) % 18446744073709551616) + 0) % 18446744073709551616), .int .u64 (((M.getD (((i) + (k))) 0) + ((((xs.getD i 0) * (ys.getD k 0) % 18446744073709551616) + cy + 0) % 18446744073709551616) + 0) / 18446744073709551616)]) (T rfl rfl) rfl) ?_
          refine lw_v (.int .u64 (((M.getD (((i) + (k))) 0) + ((((xs.getD i 0) * (ys.getD k 0) % 18446744073709551616) + cy + 0) % 18446744073709551616) + 0) / 18446744073709551616)) (dv_extract (vs := #[.int .u64 (((M.getD (((i) + (k))) 0) + ((((xs.getD i 0) * (ys.getD k 0) % 18446744073709551616) + cy + 0) % 18446744073709551616) + 0) % 18446744073709551616), .int .u64 (((M.getD (((i) + (k))) 0) + ((((xs.getD i 0) * (ys.getD k 0) % 18446744073709551616) + cy + 0) % 18446744073709551616) + 0) / 18446744073709551616)]) (T rfl rfl) rfl) ?_
          refine lw_v (.pointer (some ⟨b28, (((i) + (k))), none⟩)) (dv_indexO (g := b28) (l := ((la) + (lb))) (c := ((la) + (lb))) (i := ((i) + (k))) (j := ((i : Int)) + ((k : Int))) us67 sz22 (T rfl rfl) (T rfl rfl) (by omega) (by first | omega | (simp; done) | (simp; omega))) ?_
          refine lw_e (oe_storeW (L := M) (i := ((i) + (k))) (z := ((M.getD (((i) + (k))) 0) + ((((xs.getD i 0) * (ys.getD k 0) % 18446744073709551616) + cy + 0) % 18446744073709551616) + 0) % 18446744073709551616) sz22 (T rfl rfl) (T rfl rfl) H95 (by first | omega | (simp; done) | (simp; omega)) ?_)
          intro w96 s97 H98
          have E99 := below_st E94 N31 s97
          refine lw_v (.int .u64 (((M.getD (((i) + (k))) 0) + ((((xs.getD i 0) * (ys.getD k 0) % 18446744073709551616) + cy + 0) % 18446744073709551616) + 0) / 18446744073709551616)) (dv_assign (T rfl rfl)) ?_
          refine lw_nil ?_
          refine rk_reg ?_
          refine lw_v (.int .u64 (((xs.getD i 0) * (ys.getD k 0) / 18446744073709551616) + ((((xs.getD i 0) * (ys.getD k 0) % 18446744073709551616) + cy + 0) / 18446744073709551616))) (dv_move (T rfl rfl)) ?_
          refine lw_v (.int .u64 (((M.getD (((i) + (k))) 0) + ((((xs.getD i 0) * (ys.getD k 0) % 18446744073709551616) + cy + 0) % 18446744073709551616) + 0) / 18446744073709551616)) (dv_move (T rfl rfl)) ?_
          refine lw_v (.int .u64 ((((xs.getD i 0) * (ys.getD k 0) / 18446744073709551616) + ((((xs.getD i 0) * (ys.getD k 0) % 18446744073709551616) + cy + 0) / 18446744073709551616)) + (((M.getD (((i) + (k))) 0) + ((((xs.getD i 0) * (ys.getD k 0) % 18446744073709551616) + cy + 0) % 18446744073709551616) + 0) / 18446744073709551616))) (dv_add (a := ((xs.getD i 0) * (ys.getD k 0) / 18446744073709551616) + ((((xs.getD i 0) * (ys.getD k 0) % 18446744073709551616) + cy + 0) / 18446744073709551616)) (b := ((M.getD (((i) + (k))) 0) + ((((xs.getD i 0) * (ys.getD k 0) % 18446744073709551616) + cy + 0) % 18446744073709551616) + 0) / 18446744073709551616) (z := (((xs.getD i 0) * (ys.getD k 0) / 18446744073709551616) + ((((xs.getD i 0) * (ys.getD k 0) % 18446744073709551616) + cy + 0) / 18446744073709551616)) + (((M.getD (((i) + (k))) 0) + ((((xs.getD i 0) * (ys.getD k 0) % 18446744073709551616) + cy + 0) % 18446744073709551616) + 0) / 18446744073709551616)) (T rfl rfl) (T rfl rfl) (wn_u64 (by omega) (by omega))) ?_
          refine lw_v (.int .u64 ((((xs.getD i 0) * (ys.getD k 0) / 18446744073709551616) + ((((xs.getD i 0) * (ys.getD k 0) % 18446744073709551616) + cy + 0) / 18446744073709551616)) + (((M.getD (((i) + (k))) 0) + ((((xs.getD i 0) * (ys.getD k 0) % 18446744073709551616) + cy + 0) % 18446744073709551616) + 0) / 18446744073709551616))) (dv_assign (T rfl rfl)) ?_
          refine lw_nil ?_
          refine rk_inBlock ?_
          refine rk_reg ?_
          refine lw_v (.int .i64 (((k : Int)) + 1)) (dv_add (a := (k : Int)) (b := 1) (z := ((k : Int)) + 1) (T rfl f80) C (wr_i64 (by omega) (by omega))) ?_
          refine lw_v (.int .i64 (((k : Int)) + 1)) (dv_move (T rfl rfl)) ?_
          refine lw_nil ?_
          have H100 := (s97.blk (e93.blk H82) (by omega))
          have H101 := (s97.blk (e93.blk H83) (by omega))
          have H102 := (s97.blk (e93.blk H84) (by omega))
          exact ih60 (ys.length - ((k + 1))) _ _ (by rw [hd86]; omega) ⟨(k + 1), (M.set (((i) + (k))) (((M.getD (((i) + (k))) 0) + ((((xs.getD i 0) * (ys.getD k 0) % 18446744073709551616) + cy + 0) % 18446744073709551616) + 0) % 18446744073709551616)), ((((xs.getD i 0) * (ys.getD k 0) / 18446744073709551616) + ((((xs.getD i 0) * (ys.getD k 0) % 18446744073709551616) + cy + 0) / 18446744073709551616)) + (((M.getD (((i) + (k))) 0) + ((((xs.getD i 0) * (ys.getD k 0) % 18446744073709551616) + cy + 0) % 18446744073709551616) + 0) / 18446744073709551616)), rfl, f63, f64, f65, f66, f67, f68, rfl, f70, f71, f72, f73, f74, f75, f76, f77, f78, f79, (vi (by omega)), E99, H100, H101, H102, H98, (by omega), (by simp; omega), (okW.set hok2 (by omega) (by omega) _), (by omega), (mul_step (by omega) hM rfl rfl (by omega)), (zero_set hM0 (by omega))⟩
        · -- FFLTLF
          refine rk_cf (T rfl (congrArg Value.bool (decide_eq_false hb87))) ?_
          refine rk_exit rfl ?_
          refine rk_reg ?_
          refine lw_v (.slice (some ⟨b28, 0, none⟩) (((la) + (lb))) (((la) + (lb)))) (dv_move (T rfl f66)) ?_
          refine lw_v (.int .i64 ((i : Int))) (dv_move (T rfl f67)) ?_
          refine lw_v (.pointer (some ⟨b6, 1, none⟩)) (dv_fieldAddr (a := ⟨b6, 0, none⟩) (a' := ⟨b6, 1, none⟩) fo69_1 (T rfl f64) rfl) ?_
          refine lw_v (.slice Ab lb cb) (dv_load1 (b := b6) (o := 1) agt67 (T rfl rfl) H83 rfl) ?_
          refine lw_v (.int .i64 ((lb : Int))) (dv_len (ad := Ab) (l := lb) (c := cb) us67 (T rfl rfl)) ?_
          refine lw_v (.int .i64 (((i : Int)) + ((lb : Int)))) (dv_add (a := (i : Int)) (b := (lb : Int)) (z := ((i : Int)) + ((lb : Int))) (T rfl rfl) (T rfl rfl) (wr_i64 (by omega) (by omega))) ?_
          refine lw_v (.int .u64 cy) (dv_move (T rfl f69)) ?_
          refine lw_v (.pointer (some ⟨b28, (((i) + (lb))), none⟩)) (dv_indexO (g := b28) (l := ((la) + (lb))) (c := ((la) + (lb))) (i := ((i) + (lb))) (j := ((i : Int)) + ((lb : Int))) us67 sz22 (T rfl rfl) (T rfl rfl) (by omega) (by first | omega | (simp; done) | (simp; omega))) ?_
          refine lw_e (oe_storeW (L := M) (i := ((i) + (lb))) (z := cy) sz22 (T rfl rfl) (T rfl rfl) H85 (by first | omega | (simp; done) | (simp; omega)) ?_)
          intro w103 s104 H105
          have E106 := below_st E81 N31 s104
          refine lw_nil ?_
          refine rk_inBlock ?_
          refine rk_reg ?_
          refine lw_v (.int .i64 (((i : Int)) + 1)) (dv_add (a := (i : Int)) (b := 1) (z := ((i : Int)) + 1) (T rfl f72) C (wr_i64 (by omega) (by omega))) ?_
          refine lw_v (.int .i64 (((i : Int)) + 1)) (dv_move (T rfl rfl)) ?_
          refine lw_nil ?_
          have H107 := (s104.blk H82 (by omega))
          have H108 := (s104.blk H83 (by omega))
          have H109 := (s104.blk H84 (by omega))
          exact ih38 (xs.length - ((i + 1))) _ _ (by rw [hd53]; omega) ⟨(i + 1), (M.set (((i) + (lb))) cy), rfl, f63, f64, f65, f66, f70, f71, (vi (by omega)), E106, H107, H108, H109, H105, (by omega), (by simp; omega), (okW.set hok2 (by omega) (by omega) _), (by have hk : k = ys.length := (by omega); subst hk; rw [← hyl]; exact mul_last (by omega) (hM0 _ (by omega)) hM), (by rw [← hyl]; intro q hq; exact zero_set1 hM0 q (by omega))⟩
      · -- FFLF
        refine rk_cf (T rfl (congrArg Value.bool (decide_eq_false hb54))) ?_
        refine rk_exit rfl ?_
        refine rk_seq ?_
        refine rk_reg ?_
        refine lw_v (.pointer (some ⟨b1, 0, none⟩)) (dv_fieldAddr (a := ⟨b1, 0, none⟩) (a' := ⟨b1, 0, none⟩) fo69_0 (T rfl f41) rfl) ?_
        refine lw_v (.bool na) (dv_load1 (b := b1) (o := 0) agt4 (T rfl rfl) H49 rfl) ?_
        refine lw_v (.pointer (some ⟨b6, 0, none⟩)) (dv_fieldAddr (a := ⟨b6, 0, none⟩) (a' := ⟨b6, 0, none⟩) fo69_0 (T rfl f42) rfl) ?_
        refine lw_v (.bool nb) (dv_load1 (b := b6) (o := 0) agt4 (T rfl rfl) H50 rfl) ?_
        refine lw_v (.bool (na != nb)) (dv_neqb (a := na) (b := nb) ub4 (T rfl rfl) (T rfl rfl)) ?_
        refine lw_v (.slice (some ⟨b28, 0, none⟩) (((la) + (lb))) (((la) + (lb)))) (dv_move (T rfl f44)) ?_
        refine lw_e (oe_callf (vs := [.bool (na != nb), .slice (some ⟨b28, 0, none⟩) (((la) + (lb))) (((la) + (lb)))]) co92 (ar2 (T rfl rfl) (T rfl rfl)) (made_num (s := (64 * (((la) + (lb))))) (neg := na != nb) (⟨L, (by first | (simp; done) | (simp; omega) | omega), (by first | (simp; done) | (simp; omega) | omega), Wd.ownW H52, hok, rfl⟩ : Ws _ _ _ _ _ _ _ _) (by first | omega | (simp; done) | (simp; omega)) (valB_sz hok (by first | (simp; done) | (simp; omega) | omega))) ?_)
        rintro _ w113 ⟨nb110, n111, rfl, e114, hn112⟩
        have E115 := below_ext E48 E48.size e114
        have lhn112 := Num.len (by decide) hn112
        have H116 := (e114.blk H51)
        refine lw_e (oe_store (v := .agg #[.bool nb110, .slice (some ⟨b28, 0, none⟩) n111 (((la) + (lb)))]) (vs := [.bool nb110, .slice (some ⟨b28, 0, none⟩) n111 (((la) + (lb)))]) (l := [.bool nb110, .slice (some ⟨b28, 0, none⟩) n111 (((la) + (lb)))]) (T rfl f43) (T rfl rfl) sz69 rfl rfl rfl H116 rfl ?_)
        intro w117 s118 H119
        have E120 := below_st E115 N14 s118
        refine lw_nil ?_
        refine rk_ret Try.func55 (v := .agg #[.bool nb110, .slice (some ⟨b28, 0, none⟩) n111 (((la) + (lb)))]) (res1 Try.results55 (rv_cells (l := [.bool nb110, .slice (some ⟨b28, 0, none⟩) n111 (((la) + (lb)))]) agt69 sz69 rfl f43 H119 rfl)) ⟨_, rfl, ?_⟩
        have h121 := (hn112.st s118 H116 (by decide))
        exact ⟨_, _, _, _, rfl, E120, h121.tight (by rw [hv, List.take_of_length_le (by omega), ← hxv, ← hyv]; exact sg_mul ha.neg_iff hb.neg_iff) (by rw [Int.natAbs_mul]; exact nat_mul_sz ha.lt hb.lt)⟩

set_option maxHeartbeats 1000000 in
theorem l1Mul_ok {w : World} {na : Bool} {Aa : Option Addr} {la ca : Nat} {x : Int} {sx : Nat} (ha : Num 32 115 .u32 w na Aa la ca x sx) {nb : Bool} {Ab : Option Addr} {lb cb : Nat} {y : Int} {sy : Nat} (hb : Num 32 115 .u32 w nb Ab lb cb y sy) (hs : sx ≤ 200000) (hs2 : sy ≤ 200000) : Ct Try.prog 56 [.agg #[.bool na, .slice Aa la ca], .agg #[.bool nb, .slice Ab lb cb]] w fun v w1 => ∃ nr A' n c', v = .agg #[.bool nr, .slice A' n c'] ∧ Ext w w1 ∧ Num 32 115 .u32 w1 nr A' n c' (x * y) (sx + sy) := by
  refine ct_run (n := 90) Try.func56 rfl Try.ntmps56 rfl ?_
  have E0 : Below w.heap.size w w := Below.refl _ _
  have lha := Num.len (by decide) ha
  have lhb := Num.len (by decide) hb
  obtain ⟨xs, hxl, hxc, hxw, ox, hxk, hxv⟩ := ha.wc
  obtain ⟨ys, hyl, hyc, hyw, oy, hyk, hyv⟩ := hb.wc
  refine rk_seq ?_
  refine rk_reg ?_
  refine lw_e (oe_box (v := .agg #[.bool na, .slice Aa la ca]) (cs := #[.bool na, .slice Aa la ca]) (T rfl rfl) rfl ?_)
  intro b1 w2 n3
  have N4 : w.heap.size ≤ b1 := n3.eq ▸ E0.size
  have E5 := below_ext E0 E0.size n3.ext
  refine lw_e (oe_box (v := .agg #[.bool nb, .slice Ab lb cb]) (cs := #[.bool nb, .slice Ab lb cb]) (T rfl rfl) rfl ?_)
  intro b6 w7 n8
  have N9 : w.heap.size ≤ b6 := n8.eq ▸ E5.size
  have : b1 < b6 := n8.eq ▸ lt_of_blk n3.blk
  have E10 := below_ext E5 E5.size n8.ext
  refine lw_e (oe_alloc ze62 ?_)
  intro b11 w12 n13
  have N14 : w.heap.size ≤ b11 := n13.eq ▸ E10.size
  have : b6 < b11 := n13.eq ▸ lt_of_blk n8.blk
  have E15 := below_ext E10 E10.size n13.ext
  refine lw_nil ?_
  refine rk_seq ?_
  refine rk_seq ?_
  refine rk_reg ?_
  refine lw_v (.pointer (some ⟨b1, 1, none⟩)) (dv_fieldAddr (a := ⟨b1, 0, none⟩) (a' := ⟨b1, 1, none⟩) fo62_1 (T rfl rfl) rfl) ?_
  have H16 := (n13.ext.blk (n8.ext.blk n3.blk))
  refine lw_v (.slice Aa la ca) (dv_load1 (b := b1) (o := 1) agt60 (T rfl rfl) H16 rfl) ?_
  refine lw_v (.int .i64 ((la : Int))) (dv_len (ad := Aa) (l := la) (c := ca) us60 (T rfl rfl)) ?_
  refine lw_v (.bool (decide (((la : Int)) = 0))) (dv_eql (a := (la : Int)) (b := 0) (T rfl rfl) C) ?_
  refine lw_v (.bool (decide (((la : Int)) = 0))) (dv_move (T rfl rfl)) ?_
  by_cases hb17 : ((la : Int)) = 0
  · -- T
    refine lw_no (d := 13) rfl rfl (congrArg Value.bool (decide_eq_true hb17)) ?_
    refine lw_no (d := 13) rfl rfl (congrArg Value.bool (decide_eq_true hb17)) ?_
    refine lw_no (d := 13) rfl rfl (congrArg Value.bool (decide_eq_true hb17)) ?_
    refine lw_no (d := 13) rfl rfl (congrArg Value.bool (decide_eq_true hb17)) ?_
    refine lw_v (.bool true) (dv_pick_t (T rfl (congrArg Value.bool (decide_eq_true hb17))) C) ?_
    refine lw_nil ?_
    refine rk_ct (T rfl rfl) ?_
    refine rk_seq ?_
    refine rk_reg ?_
    refine lw_v (.agg #[.bool false, .slice none 0 0]) (dv_build (pv := []) (l := [.bool false, .slice none 0 0]) zc62 pl62 trivial rfl) ?_
    refine lw_e (oe_store (v := .agg #[.bool false, .slice none 0 0]) (vs := [.bool false, .slice none 0 0]) (l := [.bool false, .slice none 0 0]) (T rfl rfl) (T rfl rfl) sz62 rfl rfl rfl n13.blk rfl ?_)
    intro w18 s19 H20
    have E21 := below_st E15 N14 s19
    refine lw_nil ?_
    refine rk_ret Try.func56 (v := .agg #[.bool false, .slice none 0 0]) (res1 Try.results56 (rv_cells (l := [.bool false, .slice none 0 0]) agt62 sz62 rfl rfl H20 rfl)) ⟨_, rfl, ?_⟩
    exact ⟨_, _, _, _, rfl, E21, (Num.zero (s := 0)).tight (by have h1 := ha.pos_iff; have h2 := hb.pos_iff; exact (mul_zero_of (by omega)).symm) (by rw [Int.natAbs_mul]; exact nat_mul_sz ha.lt hb.lt)⟩
  · -- F
    refine lw_vy (.pointer (some ⟨b6, 1, none⟩)) (d := 13) rfl rfl (congrArg Value.bool (decide_eq_false hb17)) (dv_fieldAddr (a := ⟨b6, 0, none⟩) (a' := ⟨b6, 1, none⟩) fo62_1 (T rfl rfl) rfl) ?_
    have H22 := (n13.ext.blk n8.blk)
    refine lw_vy (.slice Ab lb cb) (d := 13) rfl rfl (congrArg Value.bool (decide_eq_false hb17)) (dv_load1 (b := b6) (o := 1) agt60 (T rfl rfl) H22 rfl) ?_
    refine lw_vy (.int .i64 ((lb : Int))) (d := 13) rfl rfl (congrArg Value.bool (decide_eq_false hb17)) (dv_len (ad := Ab) (l := lb) (c := cb) us60 (T rfl rfl)) ?_
    refine lw_vy (.bool (decide (((lb : Int)) = 0))) (d := 13) rfl rfl (congrArg Value.bool (decide_eq_false hb17)) (dv_eql (a := (lb : Int)) (b := 0) (T rfl rfl) C) ?_
    refine lw_v (.bool (decide (((lb : Int)) = 0))) (dv_pick_f (T rfl (congrArg Value.bool (decide_eq_false hb17))) (T rfl rfl)) ?_
    refine lw_nil ?_
    by_cases hb23 : ((lb : Int)) = 0
    · -- FT
      refine rk_ct (T rfl (congrArg Value.bool (decide_eq_true hb23))) ?_
      refine rk_seq ?_
      refine rk_reg ?_
      refine lw_v (.agg #[.bool false, .slice none 0 0]) (dv_build (pv := []) (l := [.bool false, .slice none 0 0]) zc62 pl62 trivial rfl) ?_
      refine lw_e (oe_store (v := .agg #[.bool false, .slice none 0 0]) (vs := [.bool false, .slice none 0 0]) (l := [.bool false, .slice none 0 0]) (T rfl rfl) (T rfl rfl) sz62 rfl rfl rfl n13.blk rfl ?_)
      intro w24 s25 H26
      have E27 := below_st E15 N14 s25
      refine lw_nil ?_
      refine rk_ret Try.func56 (v := .agg #[.bool false, .slice none 0 0]) (res1 Try.results56 (rv_cells (l := [.bool false, .slice none 0 0]) agt62 sz62 rfl rfl H26 rfl)) ⟨_, rfl, ?_⟩
      exact ⟨_, _, _, _, rfl, E27, (Num.zero (s := 0)).tight (by have h1 := ha.pos_iff; have h2 := hb.pos_iff; exact (mul_zero_of (by omega)).symm) (by rw [Int.natAbs_mul]; exact nat_mul_sz ha.lt hb.lt)⟩
    · -- FF
      refine rk_cf (T rfl (congrArg Value.bool (decide_eq_false hb23))) ?_
      refine rk_skip ?_
      refine rk_seq ?_
      refine rk_reg ?_
      refine lw_v (.pointer (some ⟨b1, 1, none⟩)) (dv_fieldAddr (a := ⟨b1, 0, none⟩) (a' := ⟨b1, 1, none⟩) fo62_1 (T rfl rfl) rfl) ?_
      refine lw_v (.slice Aa la ca) (dv_load1 (b := b1) (o := 1) agt60 (T rfl rfl) H16 rfl) ?_
      refine lw_v (.int .i64 ((la : Int))) (dv_len (ad := Aa) (l := la) (c := ca) us60 (T rfl rfl)) ?_
      refine lw_v (.pointer (some ⟨b6, 1, none⟩)) (dv_fieldAddr (a := ⟨b6, 0, none⟩) (a' := ⟨b6, 1, none⟩) fo62_1 (T rfl rfl) rfl) ?_
      refine lw_v (.slice Ab lb cb) (dv_load1 (b := b6) (o := 1) agt60 (T rfl rfl) H22 rfl) ?_
      refine lw_v (.int .i64 ((lb : Int))) (dv_len (ad := Ab) (l := lb) (c := cb) us60 (T rfl rfl)) ?_
      refine lw_v (.int .i64 (((la : Int)) + ((lb : Int)))) (dv_add (a := (la : Int)) (b := (lb : Int)) (z := ((la : Int)) + ((lb : Int))) (T rfl rfl) (T rfl rfl) (wr_i64 (by omega) (by omega))) ?_
      refine lw_e (oe_makeW (l := ((la) + (lb))) (j := ((la : Int)) + ((lb : Int))) us60 in115 (T rfl rfl) (T rfl rfl) (by omega) (by first | omega | (simp; done) | (simp; omega)) (by first | omega | (simp; done) | (simp; omega)) ?_)
      intro b28 w29 n30
      have N31 : w.heap.size ≤ b28 := n30.eq ▸ E15.size
      have : b11 < b28 := n30.eq ▸ lt_of_blk n13.blk
      have E32 := below_ext E15 E15.size n30.ext
      refine lw_v (.slice (some ⟨b28, 0, none⟩) (((la) + (lb))) (((la) + (lb)))) (dv_assign (T rfl rfl)) ?_
      refine lw_nil ?_
      refine rk_seq ?_
      refine rk_seq ?_
      refine rk_reg ?_
      refine lw_v (.int .i64 0) (dv_assign C) ?_
      refine lw_nil ?_
      refine rk_block ?_
      have H33 := (n30.ext.blk H16)
      have H34 := (n30.ext.blk H22)
      have H35 := (n30.ext.blk n13.blk)
      refine rk_loop (fun dm_ fr wl => ∃ (i : Nat) (L : List Int), dm_ = xs.length - i ∧ fr 2 = .pointer (some ⟨b1, 0, none⟩) ∧ fr 3 = .pointer (some ⟨b6, 0, none⟩) ∧ fr 4 = .pointer (some ⟨b11, 0, none⟩) ∧ fr 5 = .slice (some ⟨b28, 0, none⟩) (((la) + (lb))) (((la) + (lb))) ∧ fr 6 = .int .i64 ((i : Int)) ∧ Below w.heap.size w wl ∧ wl.heap[b1]? = some (.cells #[.bool na, .slice Aa la ca] 62) ∧ wl.heap[b6]? = some (.cells #[.bool nb, .slice Ab lb cb] 62) ∧ wl.heap[b11]? = some (.cells #[.bool false, .slice none 0 0] 62) ∧ wl.heap[b28]? = some (.cells (L.map (Value.int .u32)).toArray 115) ∧ (i ≤ xs.length) ∧ (L.length = xs.length + ys.length) ∧ (okW (2 ^ 32) L) ∧ (valB (2 ^ 32) L = valB (2 ^ 32) (xs.take i) * valB (2 ^ 32) ys) ∧ (∀ q, i + ys.length ≤ q → L.getD q 0 = 0)) (xs.length - 0) ⟨0, (List.replicate (((la) + (lb))) (0 : Int)), rfl, rfl, rfl, rfl, rfl, (vi (by omega)), E32, H33, H34, H35, n30.blk, (Nat.zero_le _), (by simp; omega), (okW.replicate (by decide) _), (by rw [valB_zeros, List.take_zero]; simp [valB]), (fun q _ => rep_zero _ q)⟩ ?_
      intro d40 fr39 w36 hI37 ih38
      obtain ⟨i, L, hd51, f41, f42, f43, f44, f45, E46, H47, H48, H49, H50, hi, hl, hok, hv, hL0⟩ := hI37
      have bxs := okW.getD ox (by decide) i
      refine rk_seq ?_
      refine rk_seq ?_
      refine rk_reg ?_
      refine lw_v (.int .i64 ((i : Int))) (dv_move (T rfl f45)) ?_
      refine lw_v (.pointer (some ⟨b1, 1, none⟩)) (dv_fieldAddr (a := ⟨b1, 0, none⟩) (a' := ⟨b1, 1, none⟩) fo62_1 (T rfl f41) rfl) ?_
      refine lw_v (.slice Aa la ca) (dv_load1 (b := b1) (o := 1) agt60 (T rfl rfl) H47 rfl) ?_
      refine lw_v (.int .i64 ((la : Int))) (dv_len (ad := Aa) (l := la) (c := ca) us60 (T rfl rfl)) ?_
      refine lw_v (.bool (decide (((i : Int)) < ((la : Int))))) (dv_lss (a := (i : Int)) (b := (la : Int)) (T rfl rfl) (T rfl rfl)) ?_
      refine lw_nil ?_
      by_cases hb52 : ((i : Int)) < ((la : Int))
      · -- FFLT
        refine rk_ct (T rfl (congrArg Value.bool (decide_eq_true hb52))) ?_
        refine rk_skip ?_
        refine rk_seq ?_
        refine rk_block ?_
        refine rk_seq ?_
        refine rk_reg ?_
        refine lw_v (.int .u64 0) (dv_assign C) ?_
        refine lw_nil ?_
        refine rk_seq ?_
        refine rk_seq ?_
        refine rk_reg ?_
        refine lw_v (.int .i64 0) (dv_assign C) ?_
        refine lw_nil ?_
        refine rk_block ?_
        refine rk_loop (fun dm_ fr wl => ∃ (k : Nat) (M : List Int) (cy : Int), dm_ = ys.length - k ∧ fr 2 = .pointer (some ⟨b1, 0, none⟩) ∧ fr 3 = .pointer (some ⟨b6, 0, none⟩) ∧ fr 4 = .pointer (some ⟨b11, 0, none⟩) ∧ fr 5 = .slice (some ⟨b28, 0, none⟩) (((la) + (lb))) (((la) + (lb))) ∧ fr 6 = .int .i64 ((i : Int)) ∧ fr 7 = .int .u64 cy ∧ fr 8 = .int .i64 ((k : Int)) ∧ fr 28 = .int .i64 ((i : Int)) ∧ fr 29 = .pointer (some ⟨b1, 1, none⟩) ∧ fr 30 = .slice Aa la ca ∧ fr 31 = .int .i64 ((la : Int)) ∧ fr 32 = .bool (decide (((i : Int)) < ((la : Int)))) ∧ Below w.heap.size w wl ∧ wl.heap[b1]? = some (.cells #[.bool na, .slice Aa la ca] 62) ∧ wl.heap[b6]? = some (.cells #[.bool nb, .slice Ab lb cb] 62) ∧ wl.heap[b11]? = some (.cells #[.bool false, .slice none 0 0] 62) ∧ wl.heap[b28]? = some (.cells (M.map (Value.int .u32)).toArray 115) ∧ (k ≤ ys.length) ∧ (M.length = xs.length + ys.length) ∧ (okW (2 ^ 32) M) ∧ (0 ≤ cy ∧ cy < 4294967296) ∧ (valB (2 ^ 32) M + cy * (2 ^ 32) ^ (i + k) = valB (2 ^ 32) (xs.take i) * valB (2 ^ 32) ys + xs.getD i 0 * valB (2 ^ 32) (ys.take k) * (2 ^ 32) ^ i) ∧ (∀ q, i + ys.length ≤ q → M.getD q 0 = 0)) (ys.length - 0) ⟨0, L, 0, rfl, f41, f42, f43, f44, f45, rfl, (vi (by omega)), rfl, rfl, rfl, rfl, rfl, E46, H47, H48, H49, H50, (Nat.zero_le _), hl, hok, (by decide), (mul_start hv), hL0⟩ ?_
        intro d57 fr56 w53 hI54 ih55
        obtain ⟨k, M, cy, hd75, f58, f59, f60, f61, f62, f63, f64, f65, f66, f67, f68, f69, E70, H71, H72, H73, H74, hk, hMl, hok2, hcy, hM, hM0⟩ := hI54
        have bys := okW.getD oy (by decide) k
        have bMk := okW.getD hok2 (by decide) (i + k)
        refine rk_seq ?_
        refine rk_seq ?_
        refine rk_reg ?_
        refine lw_v (.int .i64 ((k : Int))) (dv_move (T rfl f64)) ?_
        refine lw_v (.pointer (some ⟨b6, 1, none⟩)) (dv_fieldAddr (a := ⟨b6, 0, none⟩) (a' := ⟨b6, 1, none⟩) fo62_1 (T rfl f59) rfl) ?_
        refine lw_v (.slice Ab lb cb) (dv_load1 (b := b6) (o := 1) agt60 (T rfl rfl) H72 rfl) ?_
        refine lw_v (.int .i64 ((lb : Int))) (dv_len (ad := Ab) (l := lb) (c := cb) us60 (T rfl rfl)) ?_
        refine lw_v (.bool (decide (((k : Int)) < ((lb : Int))))) (dv_lss (a := (k : Int)) (b := (lb : Int)) (T rfl rfl) (T rfl rfl)) ?_
        refine lw_nil ?_
        by_cases hb76 : ((k : Int)) < ((lb : Int))
        · -- FFLTLT
          refine rk_ct (T rfl (congrArg Value.bool (decide_eq_true hb76))) ?_
          refine rk_skip ?_
          refine rk_seq ?_
          refine rk_block ?_
          refine rk_seq ?_
          have h77 := (hxw.ext E70)
          have h78 := (hyw.ext E70)
          refine rk_any (fun w => w.heap[b1]? = some (.cells #[.bool na, .slice Aa la ca] 62) ∧ Wd w 115 .u32 Aa xs ∧ w.heap[b6]? = some (.cells #[.bool nb, .slice Ab lb cb] 62) ∧ Wd w 115 .u32 Ab ys ∧ w.heap[b28]? = some (.cells (M.map (Value.int .u32)).toArray 115)) [23] mo ?_
          intro w79 d80
          have E81 := below_ext E70 E70.size d80.ext
          have H82 := (d80.ext.blk H71)
          have h83 := (h77.ext d80.ext)
          have H84 := (d80.ext.blk H72)
          have h85 := (h78.ext d80.ext)
          have H86 := (d80.ext.blk H74)
          refine aw_pure 0 (.int .u64 cy) rfl (by kernel_rfl) .none ⟨H82, h83, H84, h85, H86⟩ (fun _ => dv_move (T rfl f63)) ?_
          refine aw_pure 1 (.pointer (some ⟨b1, 1, none⟩)) rfl (by kernel_rfl) .none ⟨H82, h83, H84, h85, H86⟩ (fun _ => dv_fieldAddr (a := ⟨b1, 0, none⟩) (a' := ⟨b1, 1, none⟩) fo62_1 (T rfl f58) rfl) ?_
          refine aw_load 2 (.slice Aa la ca) rfl (by kernel_rfl) .none ⟨H82, h83, H84, h85, H86⟩ (fun _ s => dv_load1 (b := b1) (o := 1) agt60 (T rfl rfl) s.1 rfl) ?_
          refine aw_pure 3 (.int .i64 ((i : Int))) rfl (by kernel_rfl) .none ⟨H82, h83, H84, h85, H86⟩ (fun _ => dv_move (T rfl f62)) ?_
          obtain ⟨g87, o88, rfl⟩ := Wd.at h83 (by first | omega | (simp; done) | (simp; omega))
          refine aw_pure 4 (.pointer (some ⟨g87, o88 + i, none⟩)) rfl (by kernel_rfl) .none ⟨H82, h83, H84, h85, H86⟩ (fun _ => dv_indexW (g := g87) (o := o88) (l := la) (c := ca) (i := i) (j := (i : Int)) us60 sz115 (T rfl rfl) (T rfl rfl) (by omega) (by first | omega | (simp; done) | (simp; omega))) ?_
          refine aw_load 5 (.int .u32 (xs.getD i 0)) rfl (by kernel_rfl) .none ⟨H82, h83, H84, h85, H86⟩ (fun _ s => dv_load agt115 (T rfl rfl) (Wd.cell s.2.1 (by first | omega | (simp; done) | (simp; omega)))) ?_
          refine aw_pure 6 (.int .u64 (xs.getD i 0)) rfl (by kernel_rfl) .none ⟨H82, h83, H84, h85, H86⟩ (fun _ => dv_conv (a := xs.getD i 0) (z := xs.getD i 0) ui115 ui22 (T rfl rfl) (wn_u64 (by omega) (by omega))) ?_
          refine aw_pure 7 (.pointer (some ⟨b6, 1, none⟩)) rfl (by kernel_rfl) .none ⟨H82, h83, H84, h85, H86⟩ (fun _ => dv_fieldAddr (a := ⟨b6, 0, none⟩) (a' := ⟨b6, 1, none⟩) fo62_1 (T rfl f59) rfl) ?_
          refine aw_load 8 (.slice Ab lb cb) rfl (by kernel_rfl) .none ⟨H82, h83, H84, h85, H86⟩ (fun _ s => dv_load1 (b := b6) (o := 1) agt60 (T rfl rfl) s.2.2.1 rfl) ?_
          refine aw_pure 9 (.int .i64 ((k : Int))) rfl (by kernel_rfl) .none ⟨H82, h83, H84, h85, H86⟩ (fun _ => dv_move (T rfl f64)) ?_
          obtain ⟨g89, o90, rfl⟩ := Wd.at h85 (by first | omega | (simp; done) | (simp; omega))
          refine aw_pure 10 (.pointer (some ⟨g89, o90 + k, none⟩)) rfl (by kernel_rfl) .none ⟨H82, h83, H84, h85, H86⟩ (fun _ => dv_indexW (g := g89) (o := o90) (l := lb) (c := cb) (i := k) (j := (k : Int)) us60 sz115 (T rfl rfl) (T rfl rfl) (by omega) (by first | omega | (simp; done) | (simp; omega))) ?_
          refine aw_load 11 (.int .u32 (ys.getD k 0)) rfl (by kernel_rfl) .none ⟨H82, h83, H84, h85, H86⟩ (fun _ s => dv_load agt115 (T rfl rfl) (Wd.cell s.2.2.2.1 (by first | omega | (simp; done) | (simp; omega)))) ?_
          refine aw_pure 12 (.int .u64 (ys.getD k 0)) rfl (by kernel_rfl) .none ⟨H82, h83, H84, h85, H86⟩ (fun _ => dv_conv (a := ys.getD k 0) (z := ys.getD k 0) ui115 ui22 (T rfl rfl) (wn_u64 (by omega) (by omega))) ?_
          have hm91 := mul_pos_bd (A := 4294967295) (show 0 ≤ (xs.getD i 0) by omega) (by omega) (show 0 ≤ (ys.getD k 0) by omega) (by omega)
          refine aw_pure 13 (.int .u64 ((xs.getD i 0) * (ys.getD k 0))) rfl (by kernel_rfl) .none ⟨H82, h83, H84, h85, H86⟩ (fun _ => dv_mul (a := xs.getD i 0) (b := ys.getD k 0) (z := (xs.getD i 0) * (ys.getD k 0)) (T rfl rfl) (T rfl rfl) (wn_u64 (by omega) (by omega))) ?_
          refine aw_pure 14 (.int .u64 (cy + ((xs.getD i 0) * (ys.getD k 0)))) rfl (by kernel_rfl) .none ⟨H82, h83, H84, h85, H86⟩ (fun _ => dv_add (a := cy) (b := (xs.getD i 0) * (ys.getD k 0)) (z := cy + ((xs.getD i 0) * (ys.getD k 0))) (T rfl rfl) (T rfl rfl) (wn_u64 (by omega) (by omega))) ?_
          refine aw_pure 15 (.slice (some ⟨b28, 0, none⟩) (((la) + (lb))) (((la) + (lb)))) rfl (by kernel_rfl) .none ⟨H82, h83, H84, h85, H86⟩ (fun _ => dv_move (T rfl f61)) ?_
          refine aw_pure 16 (.int .i64 ((i : Int))) rfl (by kernel_rfl) .none ⟨H82, h83, H84, h85, H86⟩ (fun _ => dv_move (T rfl f62)) ?_
          refine aw_pure 17 (.int .i64 ((k : Int))) rfl (by kernel_rfl) .none ⟨H82, h83, H84, h85, H86⟩ (fun _ => dv_move (T rfl f64)) ?_
          refine aw_pure 18 (.int .i64 (((i : Int)) + ((k : Int)))) rfl (by kernel_rfl) .none ⟨H82, h83, H84, h85, H86⟩ (fun _ => dv_add (a := (i : Int)) (b := (k : Int)) (z := ((i : Int)) + ((k : Int))) (T rfl rfl) (T rfl rfl) (wr_i64 (by omega) (by omega))) ?_
          refine aw_pure 19 (.pointer (some ⟨b28, (((i) + (k))), none⟩)) rfl (by kernel_rfl) .none ⟨H82, h83, H84, h85, H86⟩ (fun _ => dv_indexO (g := b28) (l := ((la) + (lb))) (c := ((la) + (lb))) (i := ((i) + (k))) (j := ((i : Int)) + ((k : Int))) us60 sz115 (T rfl rfl) (T rfl rfl) (by omega) (by first | omega | (simp; done) | (simp; omega))) ?_
          refine aw_load 20 (.int .u32 (M.getD (((i) + (k))) 0)) rfl (by kernel_rfl) .none ⟨H82, h83, H84, h85, H86⟩ (fun _ s => dv_loadW (L := M) (v := M.getD (((i) + (k))) 0) agt115 (T rfl rfl) s.2.2.2.2 (by first | omega | (simp; done) | (simp; omega)) rfl) ?_
          refine aw_pure 21 (.int .u64 (M.getD (((i) + (k))) 0)) rfl (by kernel_rfl) .none ⟨H82, h83, H84, h85, H86⟩ (fun _ => dv_conv (a := M.getD (((i) + (k))) 0) (z := M.getD (((i) + (k))) 0) ui115 ui22 (T rfl rfl) (wn_u64 (by omega) (by omega))) ?_
          refine aw_pure 22 (.int .u64 ((cy + ((xs.getD i 0) * (ys.getD k 0))) + (M.getD (((i) + (k))) 0))) rfl (by kernel_rfl) .none ⟨H82, h83, H84, h85, H86⟩ (fun _ => dv_add (a := cy + ((xs.getD i 0) * (ys.getD k 0))) (b := M.getD (((i) + (k))) 0) (z := (cy + ((xs.getD i 0) * (ys.getD k 0))) + (M.getD (((i) + (k))) 0)) (T rfl rfl) (T rfl rfl) (wn_u64 (by omega) (by omega))) ?_
          refine aw_last 23 (.int .u64 ((cy + ((xs.getD i 0) * (ys.getD k 0))) + (M.getD (((i) + (k))) 0))) rfl (by kernel_rfl) .none (fun _ => dv_assign (T rfl rfl)) ?_
          refine aw_done (by kernel_rfl) ?_
          refine rk_seq ?_
          refine rk_reg ?_
          refine lw_v (.slice (some ⟨b28, 0, none⟩) (((la) + (lb))) (((la) + (lb)))) (dv_move (T rfl f61)) ?_
          refine lw_v (.int .i64 ((i : Int))) (dv_move (T rfl f62)) ?_
          refine lw_v (.int .i64 ((k : Int))) (dv_move (T rfl f64)) ?_
          refine lw_v (.int .i64 (((i : Int)) + ((k : Int)))) (dv_add (a := (i : Int)) (b := (k : Int)) (z := ((i : Int)) + ((k : Int))) (T rfl rfl) (T rfl rfl) (wr_i64 (by omega) (by omega))) ?_
          refine lw_v (.int .u64 ((cy + ((xs.getD i 0) * (ys.getD k 0))) + (M.getD (((i) + (k))) 0))) (dv_move (T rfl rfl)) ?_
          refine lw_v (.int .u32 (((cy + ((xs.getD i 0) * (ys.getD k 0))) + (M.getD (((i) + (k))) 0)) % 4294967296)) (dv_conv (a := (cy + ((xs.getD i 0) * (ys.getD k 0))) + (M.getD (((i) + (k))) 0)) (z := ((cy + ((xs.getD i 0) * (ys.getD k 0))) + (M.getD (((i) + (k))) 0)) % 4294967296) ui22 ui115 (T rfl rfl) (wr_u32 _)) ?_
          refine lw_v (.pointer (some ⟨b28, (((i) + (k))), none⟩)) (dv_indexO (g := b28) (l := ((la) + (lb))) (c := ((la) + (lb))) (i := ((i) + (k))) (j := ((i : Int)) + ((k : Int))) us60 sz115 (T rfl rfl) (T rfl rfl) (by omega) (by first | omega | (simp; done) | (simp; omega))) ?_
          refine lw_e (oe_storeW (L := M) (i := ((i) + (k))) (z := ((cy + ((xs.getD i 0) * (ys.getD k 0))) + (M.getD (((i) + (k))) 0)) % 4294967296) sz115 (T rfl rfl) (T rfl rfl) H86 (by first | omega | (simp; done) | (simp; omega)) ?_)
          intro w92 s93 H94
          have E95 := below_st E81 N31 s93
          refine lw_nil ?_
          refine rk_reg ?_
          refine lw_v (.int .u64 ((cy + ((xs.getD i 0) * (ys.getD k 0))) + (M.getD (((i) + (k))) 0))) (dv_move (T rfl rfl)) ?_
          refine lw_v (.int .u64 (((cy + ((xs.getD i 0) * (ys.getD k 0))) + (M.getD (((i) + (k))) 0)) / 4294967296)) (dv_shr (a := (cy + ((xs.getD i 0) * (ys.getD k 0))) + (M.getD (((i) + (k))) 0)) (b := 32) (z := ((cy + ((xs.getD i 0) * (ys.getD k 0))) + (M.getD (((i) + (k))) 0)) / 4294967296) (T rfl rfl) C (by decide) (shr_c (n := 32) (by omega) (by decide))) ?_
          refine lw_v (.int .u64 (((cy + ((xs.getD i 0) * (ys.getD k 0))) + (M.getD (((i) + (k))) 0)) / 4294967296)) (dv_assign (T rfl rfl)) ?_
          refine lw_nil ?_
          refine rk_inBlock ?_
          refine rk_reg ?_
          refine lw_v (.int .i64 ((k : Int))) (dv_move (T rfl f64)) ?_
          refine lw_v (.int .i64 (((k : Int)) + 1)) (dv_add (a := (k : Int)) (b := 1) (z := ((k : Int)) + 1) (T rfl rfl) C (wr_i64 (by omega) (by omega))) ?_
          refine lw_v (.int .i64 (((k : Int)) + 1)) (dv_assign (T rfl rfl)) ?_
          refine lw_nil ?_
          have H96 := (s93.blk H82 (by omega))
          have H97 := (s93.blk H84 (by omega))
          have H98 := (s93.blk (d80.ext.blk H73) (by omega))
          exact ih55 (ys.length - ((k + 1))) _ _ (by rw [hd75]; omega) ⟨(k + 1), (M.set (((i) + (k))) (((cy + ((xs.getD i 0) * (ys.getD k 0))) + (M.getD (((i) + (k))) 0)) % 4294967296)), (((cy + ((xs.getD i 0) * (ys.getD k 0))) + (M.getD (((i) + (k))) 0)) / 4294967296), rfl, f58, f59, f60, f61, f62, rfl, (vi (by omega)), f65, f66, f67, f68, f69, E95, H96, H97, H98, H94, (by omega), (by simp; omega), (okW.set hok2 (by omega) (by omega) _), (by omega), (mul_step (by omega) hM rfl rfl (by omega)), (zero_set hM0 (by omega))⟩
        · -- FFLTLF
          refine rk_cf (T rfl (congrArg Value.bool (decide_eq_false hb76))) ?_
          refine rk_exit rfl ?_
          refine rk_reg ?_
          refine lw_v (.slice (some ⟨b28, 0, none⟩) (((la) + (lb))) (((la) + (lb)))) (dv_move (T rfl f61)) ?_
          refine lw_v (.int .i64 ((i : Int))) (dv_move (T rfl f62)) ?_
          refine lw_v (.pointer (some ⟨b6, 1, none⟩)) (dv_fieldAddr (a := ⟨b6, 0, none⟩) (a' := ⟨b6, 1, none⟩) fo62_1 (T rfl f59) rfl) ?_
          refine lw_v (.slice Ab lb cb) (dv_load1 (b := b6) (o := 1) agt60 (T rfl rfl) H72 rfl) ?_
          refine lw_v (.int .i64 ((lb : Int))) (dv_len (ad := Ab) (l := lb) (c := cb) us60 (T rfl rfl)) ?_
          refine lw_v (.int .i64 (((i : Int)) + ((lb : Int)))) (dv_add (a := (i : Int)) (b := (lb : Int)) (z := ((i : Int)) + ((lb : Int))) (T rfl rfl) (T rfl rfl) (wr_i64 (by omega) (by omega))) ?_
          refine lw_v (.int .u64 cy) (dv_move (T rfl f63)) ?_
          refine lw_v (.int .u32 ((cy) % 4294967296)) (dv_conv (a := cy) (z := (cy) % 4294967296) ui22 ui115 (T rfl rfl) (wr_u32 _)) ?_
          refine lw_v (.pointer (some ⟨b28, (((i) + (lb))), none⟩)) (dv_indexO (g := b28) (l := ((la) + (lb))) (c := ((la) + (lb))) (i := ((i) + (lb))) (j := ((i : Int)) + ((lb : Int))) us60 sz115 (T rfl rfl) (T rfl rfl) (by omega) (by first | omega | (simp; done) | (simp; omega))) ?_
          refine lw_e (oe_storeW (L := M) (i := ((i) + (lb))) (z := (cy) % 4294967296) sz115 (T rfl rfl) (T rfl rfl) H74 (by first | omega | (simp; done) | (simp; omega)) ?_)
          intro w99 s100 H101
          have E102 := below_st E70 N31 s100
          refine lw_nil ?_
          refine rk_inBlock ?_
          refine rk_reg ?_
          refine lw_v (.int .i64 ((i : Int))) (dv_move (T rfl f62)) ?_
          refine lw_v (.int .i64 (((i : Int)) + 1)) (dv_add (a := (i : Int)) (b := 1) (z := ((i : Int)) + 1) (T rfl rfl) C (wr_i64 (by omega) (by omega))) ?_
          refine lw_v (.int .i64 (((i : Int)) + 1)) (dv_assign (T rfl rfl)) ?_
          refine lw_nil ?_
          have H103 := (s100.blk H71 (by omega))
          have H104 := (s100.blk H72 (by omega))
          have H105 := (s100.blk H73 (by omega))
          exact ih38 (xs.length - ((i + 1))) _ _ (by rw [hd51]; omega) ⟨(i + 1), (M.set (((i) + (lb))) ((cy) % 4294967296)), rfl, f58, f59, f60, f61, (vi (by omega)), E102, H103, H104, H105, H101, (by omega), (by simp; omega), (okW.set hok2 (by omega) (by omega) _), (by have hk : k = ys.length := (by omega); subst hk; rw [← hyl]; rw [Int.emod_eq_of_lt hcy.1 hcy.2]; exact mul_last (by omega) (hM0 _ (by omega)) hM), (by rw [← hyl]; intro q hq; exact zero_set1 hM0 q (by omega))⟩
      · -- FFLF
        refine rk_cf (T rfl (congrArg Value.bool (decide_eq_false hb52))) ?_
        refine rk_exit rfl ?_
        refine rk_seq ?_
        refine rk_reg ?_
        refine lw_v (.pointer (some ⟨b1, 0, none⟩)) (dv_fieldAddr (a := ⟨b1, 0, none⟩) (a' := ⟨b1, 0, none⟩) fo62_0 (T rfl f41) rfl) ?_
        refine lw_v (.bool na) (dv_load1 (b := b1) (o := 0) agt4 (T rfl rfl) H47 rfl) ?_
        refine lw_v (.pointer (some ⟨b6, 0, none⟩)) (dv_fieldAddr (a := ⟨b6, 0, none⟩) (a' := ⟨b6, 0, none⟩) fo62_0 (T rfl f42) rfl) ?_
        refine lw_v (.bool nb) (dv_load1 (b := b6) (o := 0) agt4 (T rfl rfl) H48 rfl) ?_
        refine lw_v (.bool (na != nb)) (dv_neqb (a := na) (b := nb) ub4 (T rfl rfl) (T rfl rfl)) ?_
        refine lw_v (.slice (some ⟨b28, 0, none⟩) (((la) + (lb))) (((la) + (lb)))) (dv_move (T rfl f44)) ?_
        refine lw_e (oe_callf (vs := [.bool (na != nb), .slice (some ⟨b28, 0, none⟩) (((la) + (lb))) (((la) + (lb)))]) co89 (ar2 (T rfl rfl) (T rfl rfl)) (l1Trim_num (s := (32 * (((la) + (lb))))) (neg := na != nb) (⟨L, (by first | (simp; done) | (simp; omega) | omega), (by first | (simp; done) | (simp; omega) | omega), Wd.ownW H50, hok, rfl⟩ : Ws _ _ _ _ _ _ _ _) (by first | omega | (simp; done) | (simp; omega)) (valB_sz hok (by first | (simp; done) | (simp; omega) | omega))) ?_)
        rintro _ w111 ⟨nb106, A107, n108, c109, rfl, e112, hn110⟩
        have E113 := below_ext E46 E46.size e112
        have lhn110 := Num.len (by decide) hn110
        have H114 := (e112.blk H49)
        refine lw_e (oe_store (v := .agg #[.bool nb106, .slice A107 n108 c109]) (vs := [.bool nb106, .slice A107 n108 c109]) (l := [.bool nb106, .slice A107 n108 c109]) (T rfl f43) (T rfl rfl) sz62 rfl rfl rfl H114 rfl ?_)
        intro w115 s116 H117
        have E118 := below_st E113 N14 s116
        refine lw_nil ?_
        refine rk_ret Try.func56 (v := .agg #[.bool nb106, .slice A107 n108 c109]) (res1 Try.results56 (rv_cells (l := [.bool nb106, .slice A107 n108 c109]) agt62 sz62 rfl f43 H117 rfl)) ⟨_, rfl, ?_⟩
        have h119 := (hn110.st s116 H114 (by decide))
        exact ⟨_, _, _, _, rfl, E118, h119.tight (by rw [hv, List.take_of_length_le (by omega), ← hxv, ← hyv]; exact sg_mul ha.neg_iff hb.neg_iff) (by rw [Int.natAbs_mul]; exact nat_mul_sz ha.lt hb.lt)⟩

end Go.Proofs.Ytpnjkjahfklfnaa.W
