/- Walks and plain mathematics, packed by a program of this session: declarations that the rows reach. -/
import Derived.Test.YtmbpomcbdopgnaaPtc
set_option linter.unusedVariables false
set_option linter.unusedSimpArgs false
namespace Go.Proofs.Ytmbpomcbdopgnaa.W
open Go Go.RowKit Go.Proofs.Ytmbpomcbdopgnaa.Fw
attribute [local irreducible] RunK LW AW DV OE Ct
theorem co115 : callOk Try.prog 115 = true := by kernel_rfl
theorem mul64_ok {w : World} {x y : Int} (hx : 0 ≤ x ∧ x < 18446744073709551616) (hy : 0 ≤ y ∧ y < 18446744073709551616) : Ct Try.prog 115 [.int .u64 x, .int .u64 y] w fun v w1 => v = .tuple #[.int .u64 (x * y / 18446744073709551616), .int .u64 (x * y % 18446744073709551616)] ∧ Ext w w1 := by
 unfold Ct
 obtain ⟨X, rfl⟩ := Int.eq_ofNat_of_zero_le hx.1
 obtain ⟨Y, rfl⟩ := Int.eq_ofNat_of_zero_le hy.1
 exact Calls.mono (Try.bits_Mul64 X Y (by omega) (by omega) w) fun e w' ⟨he, hw⟩ => ⟨_, he, rfl, by subst hw; exact Below.refl _ _⟩
set_option maxHeartbeats 1000000 in
theorem nby_ok {w : World} {na : Bool} {Aa : Option Addr} {la ca : Nat} {x : Int} {sx : Nat} (ha : Num 64 36 .u64 w na Aa la ca x sx) {nb : Bool} {Ab : Option Addr} {lb cb : Nat} {y : Int} {sy : Nat} (hb : Num 64 36 .u64 w nb Ab lb cb y sy) (hs : sx ≤ 200000) (hs2 : sy ≤ 200000) : Ct Try.prog 71 [.agg #[.bool na, .slice Aa la ca], .agg #[.bool nb, .slice Ab lb cb]] w fun v w1 => ∃ nr A' n c', v = .agg #[.bool nr, .slice A' n c'] ∧ Ext w w1 ∧ Num 64 36 .u64 w1 nr A' n c' (x * y) (sx + sy) := by
 refine ct_run (n := 100) Try.func71 rfl Try.ntmps71 rfl ?_
 have E0 : Below w.heap.size w w := Below.refl _ _
 have lha := Num.len (by decide) ha
 have lhb := Num.len (by decide) hb
 obtain ⟨xs, hxl, hxc, hxw, ox, hxk, hxv⟩ := ha.wc
 obtain ⟨ys, hyl, hyc, hyw, oy, hyk, hyv⟩ := hb.wc
 refine rk_seq ?_
 refine rk_reg ?_
 refine lw_e (oe_box (v := .agg #[.bool na, .slice Aa la ca]) (cs := #[.bool na, .slice Aa la ca]) (T rfl rfl) rfl ?_)
 intro b1 w2 n3
 have N4 : w.heap.size ≤ b1 := n3.eq ▸ E0.size
 have E5 := below_ext E0 E0.size n3.ext
 refine lw_e (oe_box (v := .agg #[.bool nb, .slice Ab lb cb]) (cs := #[.bool nb, .slice Ab lb cb]) (T rfl rfl) rfl ?_)
 intro b6 w7 n8
 have N9 : w.heap.size ≤ b6 := n8.eq ▸ E5.size
 have : b1 < b6 := n8.eq ▸ lt_of_blk n3.blk
 have E10 := below_ext E5 E5.size n8.ext
 refine lw_e (oe_alloc ze107 ?_)
 intro b11 w12 n13
 have N14 : w.heap.size ≤ b11 := n13.eq ▸ E10.size
 have : b6 < b11 := n13.eq ▸ lt_of_blk n8.blk
 have E15 := below_ext E10 E10.size n13.ext
 refine lw_nil ?_
 refine rk_seq ?_
 refine rk_seq ?_
 refine rk_reg ?_
 refine lw_v (.pointer (some ⟨b1, 1, none⟩)) (dv_fieldAddr (a := ⟨b1, 0, none⟩) (a' := ⟨b1, 1, none⟩) fo107_1 (T rfl rfl) rfl) ?_
 have H16 := (n13.ext.blk (n8.ext.blk n3.blk))
 refine lw_v (.slice Aa la ca) (dv_load1 (b := b1) (o := 1) agt105 (T rfl rfl) H16 rfl) ?_
 refine lw_v (.int .i64 ((la : Int))) (dv_len (ad := Aa) (l := la) (c := ca) us105 (T rfl rfl)) ?_
 refine lw_v (.bool (decide (((la : Int)) = 0))) (dv_eql (a := (la : Int)) (b := 0) (T rfl rfl) C) ?_
 refine lw_v (.bool (decide (((la : Int)) = 0))) (dv_move (T rfl rfl)) ?_
 by_cases hb17 : ((la : Int)) = 0
 · refine lw_no (d := 18) rfl rfl (congrArg Value.bool (decide_eq_true hb17)) ?_
   refine lw_no (d := 18) rfl rfl (congrArg Value.bool (decide_eq_true hb17)) ?_
   refine lw_no (d := 18) rfl rfl (congrArg Value.bool (decide_eq_true hb17)) ?_
   refine lw_no (d := 18) rfl rfl (congrArg Value.bool (decide_eq_true hb17)) ?_
   refine lw_v (.bool true) (dv_pick_t (T rfl (congrArg Value.bool (decide_eq_true hb17))) C) ?_
   refine lw_nil ?_
   refine rk_ct (T rfl rfl) ?_
   refine rk_seq ?_
   refine rk_reg ?_
   refine lw_v (.agg #[.bool false, .slice none 0 0]) (dv_build (pv := []) (l := [.bool false, .slice none 0 0]) zc107 pl107 trivial rfl) ?_
   refine lw_e (oe_store (v := .agg #[.bool false, .slice none 0 0]) (vs := [.bool false, .slice none 0 0]) (l := [.bool false, .slice none 0 0]) (T rfl rfl) (T rfl rfl) sz107 rfl rfl rfl n13.blk rfl ?_)
   intro w18 s19 H20
   have E21 := below_st E15 N14 s19
   refine lw_nil ?_
   refine rk_ret Try.func71 (v := .agg #[.bool false, .slice none 0 0]) (res1 Try.results71 (rv_cells (l := [.bool false, .slice none 0 0]) agt107 sz107 rfl rfl H20 rfl)) ⟨_, rfl, ?_⟩
   exact ⟨_, _, _, _, rfl, E21, (Num.zero (s := 0)).tight (by have h1 := ha.pos_iff; have h2 := hb.pos_iff; exact (mul_zero_of (by omega)).symm) (by rw [Int.natAbs_mul]; exact nat_mul_sz ha.lt hb.lt)⟩
 · refine lw_vy (.pointer (some ⟨b6, 1, none⟩)) (d := 18) rfl rfl (congrArg Value.bool (decide_eq_false hb17)) (dv_fieldAddr (a := ⟨b6, 0, none⟩) (a' := ⟨b6, 1, none⟩) fo107_1 (T rfl rfl) rfl) ?_
   have H22 := (n13.ext.blk n8.blk)
   refine lw_vy (.slice Ab lb cb) (d := 18) rfl rfl (congrArg Value.bool (decide_eq_false hb17)) (dv_load1 (b := b6) (o := 1) agt105 (T rfl rfl) H22 rfl) ?_
   refine lw_vy (.int .i64 ((lb : Int))) (d := 18) rfl rfl (congrArg Value.bool (decide_eq_false hb17)) (dv_len (ad := Ab) (l := lb) (c := cb) us105 (T rfl rfl)) ?_
   refine lw_vy (.bool (decide (((lb : Int)) = 0))) (d := 18) rfl rfl (congrArg Value.bool (decide_eq_false hb17)) (dv_eql (a := (lb : Int)) (b := 0) (T rfl rfl) C) ?_
   refine lw_v (.bool (decide (((lb : Int)) = 0))) (dv_pick_f (T rfl (congrArg Value.bool (decide_eq_false hb17))) (T rfl rfl)) ?_
   refine lw_nil ?_
   by_cases hb23 : ((lb : Int)) = 0
   · refine rk_ct (T rfl (congrArg Value.bool (decide_eq_true hb23))) ?_
     refine rk_seq ?_
     refine rk_reg ?_
     refine lw_v (.agg #[.bool false, .slice none 0 0]) (dv_build (pv := []) (l := [.bool false, .slice none 0 0]) zc107 pl107 trivial rfl) ?_
     refine lw_e (oe_store (v := .agg #[.bool false, .slice none 0 0]) (vs := [.bool false, .slice none 0 0]) (l := [.bool false, .slice none 0 0]) (T rfl rfl) (T rfl rfl) sz107 rfl rfl rfl n13.blk rfl ?_)
     intro w24 s25 H26
     have E27 := below_st E15 N14 s25
     refine lw_nil ?_
     refine rk_ret Try.func71 (v := .agg #[.bool false, .slice none 0 0]) (res1 Try.results71 (rv_cells (l := [.bool false, .slice none 0 0]) agt107 sz107 rfl rfl H26 rfl)) ⟨_, rfl, ?_⟩
     exact ⟨_, _, _, _, rfl, E27, (Num.zero (s := 0)).tight (by have h1 := ha.pos_iff; have h2 := hb.pos_iff; exact (mul_zero_of (by omega)).symm) (by rw [Int.natAbs_mul]; exact nat_mul_sz ha.lt hb.lt)⟩
   · refine rk_cf (T rfl (congrArg Value.bool (decide_eq_false hb23))) ?_
     refine rk_skip ?_
     refine rk_seq ?_
     refine rk_reg ?_
     refine lw_v (.pointer (some ⟨b1, 1, none⟩)) (dv_fieldAddr (a := ⟨b1, 0, none⟩) (a' := ⟨b1, 1, none⟩) fo107_1 (T rfl rfl) rfl) ?_
     refine lw_v (.slice Aa la ca) (dv_load1 (b := b1) (o := 1) agt105 (T rfl rfl) H16 rfl) ?_
     refine lw_v (.int .i64 ((la : Int))) (dv_len (ad := Aa) (l := la) (c := ca) us105 (T rfl rfl)) ?_
     refine lw_v (.pointer (some ⟨b6, 1, none⟩)) (dv_fieldAddr (a := ⟨b6, 0, none⟩) (a' := ⟨b6, 1, none⟩) fo107_1 (T rfl rfl) rfl) ?_
     refine lw_v (.slice Ab lb cb) (dv_load1 (b := b6) (o := 1) agt105 (T rfl rfl) H22 rfl) ?_
     refine lw_v (.int .i64 ((lb : Int))) (dv_len (ad := Ab) (l := lb) (c := cb) us105 (T rfl rfl)) ?_
     refine lw_v (.int .i64 (((la : Int)) + ((lb : Int)))) (dv_add (a := (la : Int)) (b := (lb : Int)) (z := ((la : Int)) + ((lb : Int))) (T rfl rfl) (T rfl rfl) (wr_i64 (by omega) (by omega))) ?_
     refine lw_e (oe_makeW (l := ((la) + (lb))) (j := ((la : Int)) + ((lb : Int))) us105 in36 (T rfl rfl) (T rfl rfl) (by omega) (by first | omega | (simp; done) | (simp; omega)) (by first | omega | (simp; done) | (simp; omega)) ?_)
     intro b28 w29 n30
     have N31 : w.heap.size ≤ b28 := n30.eq ▸ E15.size
     have : b11 < b28 := n30.eq ▸ lt_of_blk n13.blk
     have E32 := below_ext E15 E15.size n30.ext
     refine lw_v (.slice (some ⟨b28, 0, none⟩) (((la) + (lb))) (((la) + (lb)))) (dv_assign (T rfl rfl)) ?_
     refine lw_nil ?_
     refine rk_seq ?_
     refine rk_seq ?_
     refine rk_reg ?_
     refine lw_v (.pointer (some ⟨b1, 1, none⟩)) (dv_fieldAddr (a := ⟨b1, 0, none⟩) (a' := ⟨b1, 1, none⟩) fo107_1 (T rfl rfl) rfl) ?_
     have H33 := (n30.ext.blk H16)
     refine lw_v (.slice Aa la ca) (dv_load1 (b := b1) (o := 1) agt105 (T rfl rfl) H33 rfl) ?_
     refine lw_v (.int .i64 ((la : Int))) (dv_len (ad := Aa) (l := la) (c := ca) us105 (T rfl rfl)) ?_
     refine lw_v (.int .i64 0) (dv_move C) ?_
     refine lw_nil ?_
     refine rk_block ?_
     have H34 := (n30.ext.blk H22)
     have H35 := (n30.ext.blk n13.blk)
     refine rk_loop (fun dm_ fr wl => ∃ (i : Nat) (L : List Int), dm_ = xs.length - i ∧ fr 2 = .pointer (some ⟨b1, 0, none⟩) ∧ fr 3 = .pointer (some ⟨b6, 0, none⟩) ∧ fr 4 = .pointer (some ⟨b11, 0, none⟩) ∧ fr 5 = .slice (some ⟨b28, 0, none⟩) (((la) + (lb))) (((la) + (lb))) ∧ fr 34 = .slice Aa la ca ∧ fr 35 = .int .i64 ((la : Int)) ∧ fr 36 = .int .i64 ((i : Int)) ∧ Below w.heap.size w wl ∧ wl.heap[b1]? = some (.cells #[.bool na, .slice Aa la ca] 107) ∧ wl.heap[b6]? = some (.cells #[.bool nb, .slice Ab lb cb] 107) ∧ wl.heap[b11]? = some (.cells #[.bool false, .slice none 0 0] 107) ∧ wl.heap[b28]? = some (.cells (L.map (Value.int .u64)).toArray 36) ∧ (i ≤ xs.length) ∧ (L.length = xs.length + ys.length) ∧ (okW (2 ^ 64) L) ∧ (valB (2 ^ 64) L = valB (2 ^ 64) (xs.take i) * valB (2 ^ 64) ys) ∧ (∀ q, i + ys.length ≤ q → L.getD q 0 = 0)) (xs.length - 0) ⟨0, (List.replicate (((la) + (lb))) (0 : Int)), rfl, rfl, rfl, rfl, rfl, rfl, rfl, (vi (by omega)), E32, H33, H34, H35, n30.blk, (Nat.zero_le _), (by simp; omega), (okW.replicate (by decide) _), (by rw [valB_zeros, List.take_zero]; simp [valB]), (fun q _ => rep_zero _ q)⟩ ?_
     intro d40 fr39 w36 hI37 ih38
     obtain ⟨i, L, hd53, f41, f42, f43, f44, f45, f46, f47, E48, H49, H50, H51, H52, hi, hl, hok, hv, hL0⟩ := hI37
     have bxs := okW.getD ox (by decide) i
     refine rk_seq ?_
     refine rk_reg ?_
     refine lw_v (.bool (decide (((i : Int)) < ((la : Int))))) (dv_lss (a := (i : Int)) (b := (la : Int)) (T rfl f47) (T rfl f46)) ?_
     refine lw_nil ?_
     refine rk_seq ?_
     by_cases hb54 : ((i : Int)) < ((la : Int))
     · refine rk_ct (T rfl (congrArg Value.bool (decide_eq_true hb54))) ?_
       refine rk_skip ?_
       refine rk_seq ?_
       refine rk_block ?_
       refine rk_seq ?_
       refine rk_reg ?_
       refine lw_v (.int .i64 ((i : Int))) (dv_move (T rfl f47)) ?_
       have h55 := (hxw.ext E48)
       obtain ⟨g56, o57, rfl⟩ := Wd.at h55 (by first | omega | (simp; done) | (simp; omega))
       refine lw_v (.pointer (some ⟨g56, o57 + i, none⟩)) (dv_indexW (g := g56) (o := o57) (l := la) (c := ca) (i := i) (j := (i : Int)) us105 sz36 (T rfl f45) (T rfl f47) (by omega) (by first | omega | (simp; done) | (simp; omega))) ?_
       refine lw_v (.int .u64 (xs.getD i 0)) (dv_load agt36 (T rfl rfl) (Wd.cell h55 (by first | omega | (simp; done) | (simp; omega)))) ?_
       refine lw_v (.int .i64 ((i : Int))) (dv_assign (T rfl rfl)) ?_
       refine lw_v (.int .u64 (xs.getD i 0)) (dv_assign (T rfl rfl)) ?_
       refine lw_nil ?_
       refine rk_seq ?_
       refine rk_reg ?_
       refine lw_v (.int .u64 0) (dv_assign C) ?_
       refine lw_nil ?_
       refine rk_seq ?_
       refine rk_seq ?_
       refine rk_reg ?_
       refine lw_v (.pointer (some ⟨b6, 1, none⟩)) (dv_fieldAddr (a := ⟨b6, 0, none⟩) (a' := ⟨b6, 1, none⟩) fo107_1 (T rfl f42) rfl) ?_
       refine lw_v (.slice Ab lb cb) (dv_load1 (b := b6) (o := 1) agt105 (T rfl rfl) H50 rfl) ?_
       refine lw_v (.int .i64 ((lb : Int))) (dv_len (ad := Ab) (l := lb) (c := cb) us105 (T rfl rfl)) ?_
       refine lw_v (.int .i64 0) (dv_move C) ?_
       refine lw_nil ?_
       refine rk_block ?_
       refine rk_loop (fun dm_ fr wl => ∃ (k : Nat) (M : List Int) (cy : Int), dm_ = ys.length - k ∧ fr 2 = .pointer (some ⟨b1, 0, none⟩) ∧ fr 3 = .pointer (some ⟨b6, 0, none⟩) ∧ fr 4 = .pointer (some ⟨b11, 0, none⟩) ∧ fr 5 = .slice (some ⟨b28, 0, none⟩) (((la) + (lb))) (((la) + (lb))) ∧ fr 6 = .int .i64 ((i : Int)) ∧ fr 7 = .int .u64 (xs.getD i 0) ∧ fr 8 = .int .u64 cy ∧ fr 34 = .slice (some ⟨g56, o57, none⟩) la ca ∧ fr 35 = .int .i64 ((la : Int)) ∧ fr 36 = .int .i64 ((i : Int)) ∧ fr 37 = .bool (decide (((i : Int)) < ((la : Int)))) ∧ fr 38 = .int .i64 ((i : Int)) ∧ fr 39 = .pointer (some ⟨g56, o57 + i, none⟩) ∧ fr 40 = .int .u64 (xs.getD i 0) ∧ fr 41 = .pointer (some ⟨b6, 1, none⟩) ∧ fr 42 = .slice Ab lb cb ∧ fr 43 = .int .i64 ((lb : Int)) ∧ fr 44 = .int .i64 ((k : Int)) ∧ Below w.heap.size w wl ∧ wl.heap[b1]? = some (.cells #[.bool na, .slice (some ⟨g56, o57, none⟩) la ca] 107) ∧ wl.heap[b6]? = some (.cells #[.bool nb, .slice Ab lb cb] 107) ∧ wl.heap[b11]? = some (.cells #[.bool false, .slice none 0 0] 107) ∧ wl.heap[b28]? = some (.cells (M.map (Value.int .u64)).toArray 36) ∧ (k ≤ ys.length) ∧ (M.length = xs.length + ys.length) ∧ (okW (2 ^ 64) M) ∧ (0 ≤ cy ∧ cy < 18446744073709551616) ∧ (valB (2 ^ 64) M + cy * (2 ^ 64) ^ (i + k) = valB (2 ^ 64) (xs.take i) * valB (2 ^ 64) ys + xs.getD i 0 * valB (2 ^ 64) (ys.take k) * (2 ^ 64) ^ i) ∧ (∀ q, i + ys.length ≤ q → M.getD q 0 = 0)) (ys.length - 0) ⟨0, L, 0, rfl, f41, f42, f43, f44, rfl, rfl, rfl, f45, f46, f47, rfl, rfl, rfl, rfl, rfl, rfl, rfl, (vi (by omega)), E48, H49, H50, H51, H52, (Nat.zero_le _), hl, hok, (by decide), (mul_start hv), hL0⟩ ?_
       intro d62 fr61 w58 hI59 ih60
       obtain ⟨k, M, cy, hd86, f63, f64, f65, f66, f67, f68, f69, f70, f71, f72, f73, f74, f75, f76, f77, f78, f79, f80, E81, H82, H83, H84, H85, hk, hMl, hok2, hcy, hM, hM0⟩ := hI59
       have bys := okW.getD oy (by decide) k
       have bMk := okW.getD hok2 (by decide) (i + k)
       refine rk_seq ?_
       refine rk_reg ?_
       refine lw_v (.bool (decide (((k : Int)) < ((lb : Int))))) (dv_lss (a := (k : Int)) (b := (lb : Int)) (T rfl f80) (T rfl f79)) ?_
       refine lw_nil ?_
       refine rk_seq ?_
       by_cases hb87 : ((k : Int)) < ((lb : Int))
       · refine rk_ct (T rfl (congrArg Value.bool (decide_eq_true hb87))) ?_
         refine rk_skip ?_
         refine rk_seq ?_
         refine rk_block ?_
         refine rk_seq ?_
         refine rk_reg ?_
         refine lw_v (.int .i64 ((k : Int))) (dv_move (T rfl f80)) ?_
         have h88 := (hyw.ext E81)
         obtain ⟨g89, o90, rfl⟩ := Wd.at h88 (by first | omega | (simp; done) | (simp; omega))
         refine lw_v (.pointer (some ⟨g89, o90 + k, none⟩)) (dv_indexW (g := g89) (o := o90) (l := lb) (c := cb) (i := k) (j := (k : Int)) us105 sz36 (T rfl f78) (T rfl f80) (by omega) (by first | omega | (simp; done) | (simp; omega))) ?_
         refine lw_v (.int .u64 (ys.getD k 0)) (dv_load agt36 (T rfl rfl) (Wd.cell h88 (by first | omega | (simp; done) | (simp; omega)))) ?_
         refine lw_v (.int .i64 ((k : Int))) (dv_assign (T rfl rfl)) ?_
         refine lw_v (.int .u64 (ys.getD k 0)) (dv_assign (T rfl rfl)) ?_
         refine lw_nil ?_
         refine rk_seq ?_
         refine rk_reg ?_
         refine lw_v (.int .u64 (xs.getD i 0)) (dv_move (T rfl f68)) ?_
         refine lw_v (.int .u64 (ys.getD k 0)) (dv_move (T rfl rfl)) ?_
         have hm91 := mul_pos_bd (A := 18446744073709551615) (show 0 ≤ xs.getD i 0 by omega) (by omega) (show 0 ≤ ys.getD k 0 by omega) (by omega)
         refine lw_e (oe_callf (vs := [.int .u64 (xs.getD i 0), .int .u64 (ys.getD k 0)]) co115 (ar2 (T rfl rfl) (T rfl rfl)) (mul64_ok (by omega) (by omega)) ?_)
         rintro _ w92 ⟨rfl, e93⟩
         have E94 := below_ext E81 E81.size e93
         refine lw_v (.tuple #[.int .u64 ((xs.getD i 0) * (ys.getD k 0) / 18446744073709551616), .int .u64 ((xs.getD i 0) * (ys.getD k 0) % 18446744073709551616)]) (dv_move (T rfl rfl)) ?_
         refine lw_v (.int .u64 ((xs.getD i 0) * (ys.getD k 0) / 18446744073709551616)) (dv_extract (vs := #[.int .u64 ((xs.getD i 0) * (ys.getD k 0) / 18446744073709551616), .int .u64 ((xs.getD i 0) * (ys.getD k 0) % 18446744073709551616)]) (T rfl rfl) rfl) ?_
         refine lw_v (.int .u64 ((xs.getD i 0) * (ys.getD k 0) % 18446744073709551616)) (dv_extract (vs := #[.int .u64 ((xs.getD i 0) * (ys.getD k 0) / 18446744073709551616), .int .u64 ((xs.getD i 0) * (ys.getD k 0) % 18446744073709551616)]) (T rfl rfl) rfl) ?_
         refine lw_v (.int .u64 ((xs.getD i 0) * (ys.getD k 0) / 18446744073709551616)) (dv_assign (T rfl rfl)) ?_
         refine lw_v (.int .u64 ((xs.getD i 0) * (ys.getD k 0) % 18446744073709551616)) (dv_assign (T rfl rfl)) ?_
         refine lw_nil ?_
         refine rk_seq ?_
         refine rk_reg ?_
         refine lw_v (.int .u64 0) (dv_assign C) ?_
         refine lw_nil ?_
         refine rk_seq ?_
         refine rk_reg ?_
         refine lw_v (.int .u64 ((xs.getD i 0) * (ys.getD k 0) % 18446744073709551616)) (dv_move (T rfl rfl)) ?_
         refine lw_v (.int .u64 cy) (dv_move (T rfl f69)) ?_
         refine lw_v (.tuple #[.int .u64 ((((xs.getD i 0) * (ys.getD k 0) % 18446744073709551616) + cy + 0) % 18446744073709551616), .int .u64 ((((xs.getD i 0) * (ys.getD k 0) % 18446744073709551616) + cy + 0) / 18446744073709551616)]) (dv_ext (e := add64Entry) (vs := [.int .u64 ((xs.getD i 0) * (ys.getD k 0) % 18446744073709551616), .int .u64 cy, .int .u64 0]) Try.func116 rfl rfl (by kernel_rfl) (by kernel_rfl) (ar3 (T rfl rfl) (T rfl rfl) C) (run_addE ((xs.getD i 0) * (ys.getD k 0) % 18446744073709551616) cy 0 (by omega) (by omega) (by omega))) ?_
         refine lw_v (.tuple #[.int .u64 ((((xs.getD i 0) * (ys.getD k 0) % 18446744073709551616) + cy + 0) % 18446744073709551616), .int .u64 ((((xs.getD i 0) * (ys.getD k 0) % 18446744073709551616) + cy + 0) / 18446744073709551616)]) (dv_move (T rfl rfl)) ?_
         refine lw_v (.int .u64 ((((xs.getD i 0) * (ys.getD k 0) % 18446744073709551616) + cy + 0) % 18446744073709551616)) (dv_extract (vs := #[.int .u64 ((((xs.getD i 0) * (ys.getD k 0) % 18446744073709551616) + cy + 0) % 18446744073709551616), .int .u64 ((((xs.getD i 0) * (ys.getD k 0) % 18446744073709551616) + cy + 0) / 18446744073709551616)]) (T rfl rfl) rfl) ?_
         refine lw_v (.int .u64 ((((xs.getD i 0) * (ys.getD k 0) % 18446744073709551616) + cy + 0) / 18446744073709551616)) (dv_extract (vs := #[.int .u64 ((((xs.getD i 0) * (ys.getD k 0) % 18446744073709551616) + cy + 0) % 18446744073709551616), .int .u64 ((((xs.getD i 0) * (ys.getD k 0) % 18446744073709551616) + cy + 0) / 18446744073709551616)]) (T rfl rfl) rfl) ?_
         refine lw_v (.int .u64 ((((xs.getD i 0) * (ys.getD k 0) % 18446744073709551616) + cy + 0) % 18446744073709551616)) (dv_assign (T rfl rfl)) ?_
         refine lw_v (.int .u64 ((((xs.getD i 0) * (ys.getD k 0) % 18446744073709551616) + cy + 0) / 18446744073709551616)) (dv_assign (T rfl rfl)) ?_
         refine lw_nil ?_
         refine rk_seq ?_
         refine rk_reg ?_
         refine lw_v (.int .u64 ((xs.getD i 0) * (ys.getD k 0) / 18446744073709551616)) (dv_move (T rfl rfl)) ?_
         refine lw_v (.int .u64 ((((xs.getD i 0) * (ys.getD k 0) % 18446744073709551616) + cy + 0) / 18446744073709551616)) (dv_move (T rfl rfl)) ?_
         refine lw_v (.int .u64 (((xs.getD i 0) * (ys.getD k 0) / 18446744073709551616) + ((((xs.getD i 0) * (ys.getD k 0) % 18446744073709551616) + cy + 0) / 18446744073709551616))) (dv_add (a := (xs.getD i 0) * (ys.getD k 0) / 18446744073709551616) (b := (((xs.getD i 0) * (ys.getD k 0) % 18446744073709551616) + cy + 0) / 18446744073709551616) (z := ((xs.getD i 0) * (ys.getD k 0) / 18446744073709551616) + ((((xs.getD i 0) * (ys.getD k 0) % 18446744073709551616) + cy + 0) / 18446744073709551616)) (T rfl rfl) (T rfl rfl) (wn_u64 (by omega) (by omega))) ?_
         refine lw_v (.int .u64 (((xs.getD i 0) * (ys.getD k 0) / 18446744073709551616) + ((((xs.getD i 0) * (ys.getD k 0) % 18446744073709551616) + cy + 0) / 18446744073709551616))) (dv_assign (T rfl rfl)) ?_
         refine lw_nil ?_
         refine rk_seq ?_
         refine rk_reg ?_
         refine lw_v (.slice (some ⟨b28, 0, none⟩) (((la) + (lb))) (((la) + (lb)))) (dv_move (T rfl f66)) ?_
         refine lw_v (.int .i64 ((i : Int))) (dv_move (T rfl f67)) ?_
         refine lw_v (.int .i64 ((k : Int))) (dv_move (T rfl rfl)) ?_
         refine lw_v (.int .i64 (((i : Int)) + ((k : Int)))) (dv_add (a := (i : Int)) (b := (k : Int)) (z := ((i : Int)) + ((k : Int))) (T rfl rfl) (T rfl rfl) (wr_i64 (by omega) (by omega))) ?_
         refine lw_v (.slice (some ⟨b28, 0, none⟩) (((la) + (lb))) (((la) + (lb)))) (dv_move (T rfl f66)) ?_
         refine lw_v (.int .i64 ((i : Int))) (dv_move (T rfl f67)) ?_
         refine lw_v (.int .i64 ((k : Int))) (dv_move (T rfl rfl)) ?_
         refine lw_v (.int .i64 (((i : Int)) + ((k : Int)))) (dv_add (a := (i : Int)) (b := (k : Int)) (z := ((i : Int)) + ((k : Int))) (T rfl rfl) (T rfl rfl) (wr_i64 (by omega) (by omega))) ?_
         refine lw_v (.pointer (some ⟨b28, (((i) + (k))), none⟩)) (dv_indexO (g := b28) (l := ((la) + (lb))) (c := ((la) + (lb))) (i := ((i) + (k))) (j := ((i : Int)) + ((k : Int))) us105 sz36 (T rfl rfl) (T rfl rfl) (by omega) (by first | omega | (simp; done) | (simp; omega))) ?_
         have H95 := (e93.blk H85)
         refine lw_v (.int .u64 (M.getD (((i) + (k))) 0)) (dv_loadW (L := M) (v := M.getD (((i) + (k))) 0) agt36 (T rfl rfl) H95 (by first | omega | (simp; done) | (simp; omega)) rfl) ?_
         refine lw_v (.int .u64 ((((xs.getD i 0) * (ys.getD k 0) % 18446744073709551616) + cy + 0) % 18446744073709551616)) (dv_move (T rfl rfl)) ?_
         refine lw_v (.tuple #[.int .u64 (((M.getD (((i) + (k))) 0) + ((((xs.getD i 0) * (ys.getD k 0) % 18446744073709551616) + cy + 0) % 18446744073709551616) + 0) % 18446744073709551616), .int .u64 (((M.getD (((i) + (k))) 0) + ((((xs.getD i 0) * (ys.getD k 0) % 18446744073709551616) + cy + 0) % 18446744073709551616) + 0) / 18446744073709551616)]) (dv_ext (e := add64Entry) (vs := [.int .u64 (M.getD (((i) + (k))) 0), .int .u64 ((((xs.getD i 0) * (ys.getD k 0) % 18446744073709551616) + cy + 0) % 18446744073709551616), .int .u64 0]) Try.func116 rfl rfl (by kernel_rfl) (by kernel_rfl) (ar3 (T rfl rfl) (T rfl rfl) C) (run_addE (M.getD (((i) + (k))) 0) ((((xs.getD i 0) * (ys.getD k 0) % 18446744073709551616) + cy + 0) % 18446744073709551616) 0 (by omega) (by omega) (by omega))) ?_
         refine lw_v (.tuple #[.int .u64 (((M.getD (((i) + (k))) 0) + ((((xs.getD i 0) * (ys.getD k 0) % 18446744073709551616) + cy + 0) % 18446744073709551616) + 0) % 18446744073709551616), .int .u64 (((M.getD (((i) + (k))) 0) + ((((xs.getD i 0) * (ys.getD k 0) % 18446744073709551616) + cy + 0) % 18446744073709551616) + 0) / 18446744073709551616)]) (dv_move (T rfl rfl)) ?_
         refine lw_v (.int .u64 (((M.getD (((i) + (k))) 0) + ((((xs.getD i 0) * (ys.getD k 0) % 18446744073709551616) + cy + 0) % 18446744073709551616) + 0) % 18446744073709551616)) (dv_extract (vs := #[.int .u64 (((M.getD (((i) + (k))) 0) + ((((xs.getD i 0) * (ys.getD k 0) % 18446744073709551616) + cy + 0) % 18446744073709551616) + 0) % 18446744073709551616), .int .u64 (((M.getD (((i) + (k))) 0) + ((((xs.getD i 0) * (ys.getD k 0) % 18446744073709551616) + cy + 0) % 18446744073709551616) + 0) / 18446744073709551616)]) (T rfl rfl) rfl) ?_
         refine lw_v (.int .u64 (((M.getD (((i) + (k))) 0) + ((((xs.getD i 0) * (ys.getD k 0) % 18446744073709551616) + cy + 0) % 18446744073709551616) + 0) / 18446744073709551616)) (dv_extract (vs := #[.int .u64 (((M.getD (((i) + (k))) 0) + ((((xs.getD i 0) * (ys.getD k 0) % 18446744073709551616) + cy + 0) % 18446744073709551616) + 0) % 18446744073709551616), .int .u64 (((M.getD (((i) + (k))) 0) + ((((xs.getD i 0) * (ys.getD k 0) % 18446744073709551616) + cy + 0) % 18446744073709551616) + 0) / 18446744073709551616)]) (T rfl rfl) rfl) ?_
         refine lw_v (.pointer (some ⟨b28, (((i) + (k))), none⟩)) (dv_indexO (g := b28) (l := ((la) + (lb))) (c := ((la) + (lb))) (i := ((i) + (k))) (j := ((i : Int)) + ((k : Int))) us105 sz36 (T rfl rfl) (T rfl rfl) (by omega) (by first | omega | (simp; done) | (simp; omega))) ?_
         refine lw_e (oe_storeW (L := M) (i := ((i) + (k))) (z := ((M.getD (((i) + (k))) 0) + ((((xs.getD i 0) * (ys.getD k 0) % 18446744073709551616) + cy + 0) % 18446744073709551616) + 0) % 18446744073709551616) sz36 (T rfl rfl) (T rfl rfl) H95 (by first | omega | (simp; done) | (simp; omega)) ?_)
         intro w96 s97 H98
         have E99 := below_st E94 N31 s97
         refine lw_v (.int .u64 (((M.getD (((i) + (k))) 0) + ((((xs.getD i 0) * (ys.getD k 0) % 18446744073709551616) + cy + 0) % 18446744073709551616) + 0) / 18446744073709551616)) (dv_assign (T rfl rfl)) ?_
         refine lw_nil ?_
         refine rk_reg ?_
         refine lw_v (.int .u64 (((xs.getD i 0) * (ys.getD k 0) / 18446744073709551616) + ((((xs.getD i 0) * (ys.getD k 0) % 18446744073709551616) + cy + 0) / 18446744073709551616))) (dv_move (T rfl rfl)) ?_
         refine lw_v (.int .u64 (((M.getD (((i) + (k))) 0) + ((((xs.getD i 0) * (ys.getD k 0) % 18446744073709551616) + cy + 0) % 18446744073709551616) + 0) / 18446744073709551616)) (dv_move (T rfl rfl)) ?_
         refine lw_v (.int .u64 ((((xs.getD i 0) * (ys.getD k 0) / 18446744073709551616) + ((((xs.getD i 0) * (ys.getD k 0) % 18446744073709551616) + cy + 0) / 18446744073709551616)) + (((M.getD (((i) + (k))) 0) + ((((xs.getD i 0) * (ys.getD k 0) % 18446744073709551616) + cy + 0) % 18446744073709551616) + 0) / 18446744073709551616))) (dv_add (a := ((xs.getD i 0) * (ys.getD k 0) / 18446744073709551616) + ((((xs.getD i 0) * (ys.getD k 0) % 18446744073709551616) + cy + 0) / 18446744073709551616)) (b := ((M.getD (((i) + (k))) 0) + ((((xs.getD i 0) * (ys.getD k 0) % 18446744073709551616) + cy + 0) % 18446744073709551616) + 0) / 18446744073709551616) (z := (((xs.getD i 0) * (ys.getD k 0) / 18446744073709551616) + ((((xs.getD i 0) * (ys.getD k 0) % 18446744073709551616) + cy + 0) / 18446744073709551616)) + (((M.getD (((i) + (k))) 0) + ((((xs.getD i 0) * (ys.getD k 0) % 18446744073709551616) + cy + 0) % 18446744073709551616) + 0) / 18446744073709551616)) (T rfl rfl) (T rfl rfl) (wn_u64 (by omega) (by omega))) ?_
         refine lw_v (.int .u64 ((((xs.getD i 0) * (ys.getD k 0) / 18446744073709551616) + ((((xs.getD i 0) * (ys.getD k 0) % 18446744073709551616) + cy + 0) / 18446744073709551616)) + (((M.getD (((i) + (k))) 0) + ((((xs.getD i 0) * (ys.getD k 0) % 18446744073709551616) + cy + 0) % 18446744073709551616) + 0) / 18446744073709551616))) (dv_assign (T rfl rfl)) ?_
         refine lw_nil ?_
         refine rk_inBlock ?_
         refine rk_reg ?_
         refine lw_v (.int .i64 (((k : Int)) + 1)) (dv_add (a := (k : Int)) (b := 1) (z := ((k : Int)) + 1) (T rfl f80) C (wr_i64 (by omega) (by omega))) ?_
         refine lw_v (.int .i64 (((k : Int)) + 1)) (dv_move (T rfl rfl)) ?_
         refine lw_nil ?_
         have H100 := (s97.blk (e93.blk H82) (by omega))
         have H101 := (s97.blk (e93.blk H83) (by omega))
         have H102 := (s97.blk (e93.blk H84) (by omega))
         exact ih60 (ys.length - ((k + 1))) _ _ (by rw [hd86]; omega) ⟨(k + 1), (M.set (((i) + (k))) (((M.getD (((i) + (k))) 0) + ((((xs.getD i 0) * (ys.getD k 0) % 18446744073709551616) + cy + 0) % 18446744073709551616) + 0) % 18446744073709551616)), ((((xs.getD i 0) * (ys.getD k 0) / 18446744073709551616) + ((((xs.getD i 0) * (ys.getD k 0) % 18446744073709551616) + cy + 0) / 18446744073709551616)) + (((M.getD (((i) + (k))) 0) + ((((xs.getD i 0) * (ys.getD k 0) % 18446744073709551616) + cy + 0) % 18446744073709551616) + 0) / 18446744073709551616)), rfl, f63, f64, f65, f66, f67, f68, rfl, f70, f71, f72, f73, f74, f75, f76, f77, f78, f79, (vi (by omega)), E99, H100, H101, H102, H98, (by omega), (by simp; omega), (okW.set hok2 (by omega) (by omega) _), (by omega), (mul_step (by omega) hM rfl rfl (by omega)), (zero_set hM0 (by omega))⟩
       · refine rk_cf (T rfl (congrArg Value.bool (decide_eq_false hb87))) ?_
         refine rk_exit rfl ?_
         refine rk_reg ?_
         refine lw_v (.slice (some ⟨b28, 0, none⟩) (((la) + (lb))) (((la) + (lb)))) (dv_move (T rfl f66)) ?_
         refine lw_v (.int .i64 ((i : Int))) (dv_move (T rfl f67)) ?_
         refine lw_v (.pointer (some ⟨b6, 1, none⟩)) (dv_fieldAddr (a := ⟨b6, 0, none⟩) (a' := ⟨b6, 1, none⟩) fo107_1 (T rfl f64) rfl) ?_
         refine lw_v (.slice Ab lb cb) (dv_load1 (b := b6) (o := 1) agt105 (T rfl rfl) H83 rfl) ?_
         refine lw_v (.int .i64 ((lb : Int))) (dv_len (ad := Ab) (l := lb) (c := cb) us105 (T rfl rfl)) ?_
         refine lw_v (.int .i64 (((i : Int)) + ((lb : Int)))) (dv_add (a := (i : Int)) (b := (lb : Int)) (z := ((i : Int)) + ((lb : Int))) (T rfl rfl) (T rfl rfl) (wr_i64 (by omega) (by omega))) ?_
         refine lw_v (.int .u64 cy) (dv_move (T rfl f69)) ?_
         refine lw_v (.pointer (some ⟨b28, (((i) + (lb))), none⟩)) (dv_indexO (g := b28) (l := ((la) + (lb))) (c := ((la) + (lb))) (i := ((i) + (lb))) (j := ((i : Int)) + ((lb : Int))) us105 sz36 (T rfl rfl) (T rfl rfl) (by omega) (by first | omega | (simp; done) | (simp; omega))) ?_
         refine lw_e (oe_storeW (L := M) (i := ((i) + (lb))) (z := cy) sz36 (T rfl rfl) (T rfl rfl) H85 (by first | omega | (simp; done) | (simp; omega)) ?_)
         intro w103 s104 H105
         have E106 := below_st E81 N31 s104
         refine lw_nil ?_
         refine rk_inBlock ?_
         refine rk_reg ?_
         refine lw_v (.int .i64 (((i : Int)) + 1)) (dv_add (a := (i : Int)) (b := 1) (z := ((i : Int)) + 1) (T rfl f72) C (wr_i64 (by omega) (by omega))) ?_
         refine lw_v (.int .i64 (((i : Int)) + 1)) (dv_move (T rfl rfl)) ?_
         refine lw_nil ?_
         have H107 := (s104.blk H82 (by omega))
         have H108 := (s104.blk H83 (by omega))
         have H109 := (s104.blk H84 (by omega))
         exact ih38 (xs.length - ((i + 1))) _ _ (by rw [hd53]; omega) ⟨(i + 1), (M.set (((i) + (lb))) cy), rfl, f63, f64, f65, f66, f70, f71, (vi (by omega)), E106, H107, H108, H109, H105, (by omega), (by simp; omega), (okW.set hok2 (by omega) (by omega) _), (by have hk : k = ys.length := (by omega); subst hk; rw [← hyl]; exact mul_last (by omega) (hM0 _ (by omega)) hM), (by rw [← hyl]; intro q hq; exact zero_set1 hM0 q (by omega))⟩
     · refine rk_cf (T rfl (congrArg Value.bool (decide_eq_false hb54))) ?_
       refine rk_exit rfl ?_
       refine rk_seq ?_
       refine rk_reg ?_
       refine lw_v (.pointer (some ⟨b1, 0, none⟩)) (dv_fieldAddr (a := ⟨b1, 0, none⟩) (a' := ⟨b1, 0, none⟩) fo107_0 (T rfl f41) rfl) ?_
       refine lw_v (.bool na) (dv_load1 (b := b1) (o := 0) agt4 (T rfl rfl) H49 rfl) ?_
       refine lw_v (.pointer (some ⟨b6, 0, none⟩)) (dv_fieldAddr (a := ⟨b6, 0, none⟩) (a' := ⟨b6, 0, none⟩) fo107_0 (T rfl f42) rfl) ?_
       refine lw_v (.bool nb) (dv_load1 (b := b6) (o := 0) agt4 (T rfl rfl) H50 rfl) ?_
       refine lw_v (.bool (na != nb)) (dv_neqb (a := na) (b := nb) ub4 (T rfl rfl) (T rfl rfl)) ?_
       refine lw_v (.slice (some ⟨b28, 0, none⟩) (((la) + (lb))) (((la) + (lb)))) (dv_move (T rfl f44)) ?_
       refine lw_e (oe_callf (vs := [.bool (na != nb), .slice (some ⟨b28, 0, none⟩) (((la) + (lb))) (((la) + (lb)))]) co114 (ar2 (T rfl rfl) (T rfl rfl)) (made_num (s := (64 * (((la) + (lb))))) (neg := na != nb) (⟨L, (by first | (simp; done) | (simp; omega) | omega), (by first | (simp; done) | (simp; omega) | omega), Wd.ownW H52, hok, rfl⟩ : Ws _ _ _ _ _ _ _ _) (by first | omega | (simp; done) | (simp; omega)) (valB_sz hok (by first | (simp; done) | (simp; omega) | omega))) ?_)
       rintro _ w113 ⟨nb110, n111, rfl, e114, hn112⟩
       have E115 := below_ext E48 E48.size e114
       have lhn112 := Num.len (by decide) hn112
       have H116 := (e114.blk H51)
       refine lw_e (oe_store (v := .agg #[.bool nb110, .slice (some ⟨b28, 0, none⟩) n111 (((la) + (lb)))]) (vs := [.bool nb110, .slice (some ⟨b28, 0, none⟩) n111 (((la) + (lb)))]) (l := [.bool nb110, .slice (some ⟨b28, 0, none⟩) n111 (((la) + (lb)))]) (T rfl f43) (T rfl rfl) sz107 rfl rfl rfl H116 rfl ?_)
       intro w117 s118 H119
       have E120 := below_st E115 N14 s118
       refine lw_nil ?_
       refine rk_ret Try.func71 (v := .agg #[.bool nb110, .slice (some ⟨b28, 0, none⟩) n111 (((la) + (lb)))]) (res1 Try.results71 (rv_cells (l := [.bool nb110, .slice (some ⟨b28, 0, none⟩) n111 (((la) + (lb)))]) agt107 sz107 rfl f43 H119 rfl)) ⟨_, rfl, ?_⟩
       have h121 := (hn112.st s118 H116 (by decide))
       exact ⟨_, _, _, _, rfl, E120, h121.tight (by rw [hv, List.take_of_length_le (by omega), ← hxv, ← hyv]; exact sg_mul ha.neg_iff hb.neg_iff) (by rw [Int.natAbs_mul]; exact nat_mul_sz ha.lt hb.lt)⟩
set_option maxHeartbeats 1000000 in
theorem l1Mul_ok {w : World} {na : Bool} {Aa : Option Addr} {la ca : Nat} {x : Int} {sx : Nat} (ha : Num 32 168 .u32 w na Aa la ca x sx) {nb : Bool} {Ab : Option Addr} {lb cb : Nat} {y : Int} {sy : Nat} (hb : Num 32 168 .u32 w nb Ab lb cb y sy) (hs : sx ≤ 200000) (hs2 : sy ≤ 200000) : Ct Try.prog 109 [.agg #[.bool na, .slice Aa la ca], .agg #[.bool nb, .slice Ab lb cb]] w fun v w1 => ∃ nr A' n c', v = .agg #[.bool nr, .slice A' n c'] ∧ Ext w w1 ∧ Num 32 168 .u32 w1 nr A' n c' (x * y) (sx + sy) := by
 refine ct_run (n := 90) Try.func109 rfl Try.ntmps109 rfl ?_
 have E0 : Below w.heap.size w w := Below.refl _ _
 have lha := Num.len (by decide) ha
 have lhb := Num.len (by decide) hb
 obtain ⟨xs, hxl, hxc, hxw, ox, hxk, hxv⟩ := ha.wc
 obtain ⟨ys, hyl, hyc, hyw, oy, hyk, hyv⟩ := hb.wc
 refine rk_seq ?_
 refine rk_reg ?_
 refine lw_e (oe_box (v := .agg #[.bool na, .slice Aa la ca]) (cs := #[.bool na, .slice Aa la ca]) (T rfl rfl) rfl ?_)
 intro b1 w2 n3
 have N4 : w.heap.size ≤ b1 := n3.eq ▸ E0.size
 have E5 := below_ext E0 E0.size n3.ext
 refine lw_e (oe_box (v := .agg #[.bool nb, .slice Ab lb cb]) (cs := #[.bool nb, .slice Ab lb cb]) (T rfl rfl) rfl ?_)
 intro b6 w7 n8
 have N9 : w.heap.size ≤ b6 := n8.eq ▸ E5.size
 have : b1 < b6 := n8.eq ▸ lt_of_blk n3.blk
 have E10 := below_ext E5 E5.size n8.ext
 refine lw_e (oe_alloc ze88 ?_)
 intro b11 w12 n13
 have N14 : w.heap.size ≤ b11 := n13.eq ▸ E10.size
 have : b6 < b11 := n13.eq ▸ lt_of_blk n8.blk
 have E15 := below_ext E10 E10.size n13.ext
 refine lw_nil ?_
 refine rk_seq ?_
 refine rk_seq ?_
 refine rk_reg ?_
 refine lw_v (.pointer (some ⟨b1, 1, none⟩)) (dv_fieldAddr (a := ⟨b1, 0, none⟩) (a' := ⟨b1, 1, none⟩) fo88_1 (T rfl rfl) rfl) ?_
 have H16 := (n13.ext.blk (n8.ext.blk n3.blk))
 refine lw_v (.slice Aa la ca) (dv_load1 (b := b1) (o := 1) agt86 (T rfl rfl) H16 rfl) ?_
 refine lw_v (.int .i64 ((la : Int))) (dv_len (ad := Aa) (l := la) (c := ca) us86 (T rfl rfl)) ?_
 refine lw_v (.bool (decide (((la : Int)) = 0))) (dv_eql (a := (la : Int)) (b := 0) (T rfl rfl) C) ?_
 refine lw_v (.bool (decide (((la : Int)) = 0))) (dv_move (T rfl rfl)) ?_
 by_cases hb17 : ((la : Int)) = 0
 · refine lw_no (d := 13) rfl rfl (congrArg Value.bool (decide_eq_true hb17)) ?_
   refine lw_no (d := 13) rfl rfl (congrArg Value.bool (decide_eq_true hb17)) ?_
   refine lw_no (d := 13) rfl rfl (congrArg Value.bool (decide_eq_true hb17)) ?_
   refine lw_no (d := 13) rfl rfl (congrArg Value.bool (decide_eq_true hb17)) ?_
   refine lw_v (.bool true) (dv_pick_t (T rfl (congrArg Value.bool (decide_eq_true hb17))) C) ?_
   refine lw_nil ?_
   refine rk_ct (T rfl rfl) ?_
   refine rk_seq ?_
   refine rk_reg ?_
   refine lw_v (.agg #[.bool false, .slice none 0 0]) (dv_build (pv := []) (l := [.bool false, .slice none 0 0]) zc88 pl88 trivial rfl) ?_
   refine lw_e (oe_store (v := .agg #[.bool false, .slice none 0 0]) (vs := [.bool false, .slice none 0 0]) (l := [.bool false, .slice none 0 0]) (T rfl rfl) (T rfl rfl) sz88 rfl rfl rfl n13.blk rfl ?_)
   intro w18 s19 H20
   have E21 := below_st E15 N14 s19
   refine lw_nil ?_
   refine rk_ret Try.func109 (v := .agg #[.bool false, .slice none 0 0]) (res1 Try.results109 (rv_cells (l := [.bool false, .slice none 0 0]) agt88 sz88 rfl rfl H20 rfl)) ⟨_, rfl, ?_⟩
   exact ⟨_, _, _, _, rfl, E21, (Num.zero (s := 0)).tight (by have h1 := ha.pos_iff; have h2 := hb.pos_iff; exact (mul_zero_of (by omega)).symm) (by rw [Int.natAbs_mul]; exact nat_mul_sz ha.lt hb.lt)⟩
 · refine lw_vy (.pointer (some ⟨b6, 1, none⟩)) (d := 13) rfl rfl (congrArg Value.bool (decide_eq_false hb17)) (dv_fieldAddr (a := ⟨b6, 0, none⟩) (a' := ⟨b6, 1, none⟩) fo88_1 (T rfl rfl) rfl) ?_
   have H22 := (n13.ext.blk n8.blk)
   refine lw_vy (.slice Ab lb cb) (d := 13) rfl rfl (congrArg Value.bool (decide_eq_false hb17)) (dv_load1 (b := b6) (o := 1) agt86 (T rfl rfl) H22 rfl) ?_
   refine lw_vy (.int .i64 ((lb : Int))) (d := 13) rfl rfl (congrArg Value.bool (decide_eq_false hb17)) (dv_len (ad := Ab) (l := lb) (c := cb) us86 (T rfl rfl)) ?_
   refine lw_vy (.bool (decide (((lb : Int)) = 0))) (d := 13) rfl rfl (congrArg Value.bool (decide_eq_false hb17)) (dv_eql (a := (lb : Int)) (b := 0) (T rfl rfl) C) ?_
   refine lw_v (.bool (decide (((lb : Int)) = 0))) (dv_pick_f (T rfl (congrArg Value.bool (decide_eq_false hb17))) (T rfl rfl)) ?_
   refine lw_nil ?_
   by_cases hb23 : ((lb : Int)) = 0
   · refine rk_ct (T rfl (congrArg Value.bool (decide_eq_true hb23))) ?_
     refine rk_seq ?_
     refine rk_reg ?_
     refine lw_v (.agg #[.bool false, .slice none 0 0]) (dv_build (pv := []) (l := [.bool false, .slice none 0 0]) zc88 pl88 trivial rfl) ?_
     refine lw_e (oe_store (v := .agg #[.bool false, .slice none 0 0]) (vs := [.bool false, .slice none 0 0]) (l := [.bool false, .slice none 0 0]) (T rfl rfl) (T rfl rfl) sz88 rfl rfl rfl n13.blk rfl ?_)
     intro w24 s25 H26
     have E27 := below_st E15 N14 s25
     refine lw_nil ?_
     refine rk_ret Try.func109 (v := .agg #[.bool false, .slice none 0 0]) (res1 Try.results109 (rv_cells (l := [.bool false, .slice none 0 0]) agt88 sz88 rfl rfl H26 rfl)) ⟨_, rfl, ?_⟩
     exact ⟨_, _, _, _, rfl, E27, (Num.zero (s := 0)).tight (by have h1 := ha.pos_iff; have h2 := hb.pos_iff; exact (mul_zero_of (by omega)).symm) (by rw [Int.natAbs_mul]; exact nat_mul_sz ha.lt hb.lt)⟩
   · refine rk_cf (T rfl (congrArg Value.bool (decide_eq_false hb23))) ?_
     refine rk_skip ?_
     refine rk_seq ?_
     refine rk_reg ?_
     refine lw_v (.pointer (some ⟨b1, 1, none⟩)) (dv_fieldAddr (a := ⟨b1, 0, none⟩) (a' := ⟨b1, 1, none⟩) fo88_1 (T rfl rfl) rfl) ?_
     refine lw_v (.slice Aa la ca) (dv_load1 (b := b1) (o := 1) agt86 (T rfl rfl) H16 rfl) ?_
     refine lw_v (.int .i64 ((la : Int))) (dv_len (ad := Aa) (l := la) (c := ca) us86 (T rfl rfl)) ?_
     refine lw_v (.pointer (some ⟨b6, 1, none⟩)) (dv_fieldAddr (a := ⟨b6, 0, none⟩) (a' := ⟨b6, 1, none⟩) fo88_1 (T rfl rfl) rfl) ?_
     refine lw_v (.slice Ab lb cb) (dv_load1 (b := b6) (o := 1) agt86 (T rfl rfl) H22 rfl) ?_
     refine lw_v (.int .i64 ((lb : Int))) (dv_len (ad := Ab) (l := lb) (c := cb) us86 (T rfl rfl)) ?_
     refine lw_v (.int .i64 (((la : Int)) + ((lb : Int)))) (dv_add (a := (la : Int)) (b := (lb : Int)) (z := ((la : Int)) + ((lb : Int))) (T rfl rfl) (T rfl rfl) (wr_i64 (by omega) (by omega))) ?_
     refine lw_e (oe_makeW (l := ((la) + (lb))) (j := ((la : Int)) + ((lb : Int))) us86 in168 (T rfl rfl) (T rfl rfl) (by omega) (by first | omega | (simp; done) | (simp; omega)) (by first | omega | (simp; done) | (simp; omega)) ?_)
     intro b28 w29 n30
     have N31 : w.heap.size ≤ b28 := n30.eq ▸ E15.size
     have : b11 < b28 := n30.eq ▸ lt_of_blk n13.blk
     have E32 := below_ext E15 E15.size n30.ext
     refine lw_v (.slice (some ⟨b28, 0, none⟩) (((la) + (lb))) (((la) + (lb)))) (dv_assign (T rfl rfl)) ?_
     refine lw_nil ?_
     refine rk_seq ?_
     refine rk_seq ?_
     refine rk_reg ?_
     refine lw_v (.int .i64 0) (dv_assign C) ?_
     refine lw_nil ?_
     refine rk_block ?_
     have H33 := (n30.ext.blk H16)
     have H34 := (n30.ext.blk H22)
     have H35 := (n30.ext.blk n13.blk)
     refine rk_loop (fun dm_ fr wl => ∃ (i : Nat) (L : List Int), dm_ = xs.length - i ∧ fr 2 = .pointer (some ⟨b1, 0, none⟩) ∧ fr 3 = .pointer (some ⟨b6, 0, none⟩) ∧ fr 4 = .pointer (some ⟨b11, 0, none⟩) ∧ fr 5 = .slice (some ⟨b28, 0, none⟩) (((la) + (lb))) (((la) + (lb))) ∧ fr 6 = .int .i64 ((i : Int)) ∧ Below w.heap.size w wl ∧ wl.heap[b1]? = some (.cells #[.bool na, .slice Aa la ca] 88) ∧ wl.heap[b6]? = some (.cells #[.bool nb, .slice Ab lb cb] 88) ∧ wl.heap[b11]? = some (.cells #[.bool false, .slice none 0 0] 88) ∧ wl.heap[b28]? = some (.cells (L.map (Value.int .u32)).toArray 168) ∧ (i ≤ xs.length) ∧ (L.length = xs.length + ys.length) ∧ (okW (2 ^ 32) L) ∧ (valB (2 ^ 32) L = valB (2 ^ 32) (xs.take i) * valB (2 ^ 32) ys) ∧ (∀ q, i + ys.length ≤ q → L.getD q 0 = 0)) (xs.length - 0) ⟨0, (List.replicate (((la) + (lb))) (0 : Int)), rfl, rfl, rfl, rfl, rfl, (vi (by omega)), E32, H33, H34, H35, n30.blk, (Nat.zero_le _), (by simp; omega), (okW.replicate (by decide) _), (by rw [valB_zeros, List.take_zero]; simp [valB]), (fun q _ => rep_zero _ q)⟩ ?_
     intro d40 fr39 w36 hI37 ih38
     obtain ⟨i, L, hd51, f41, f42, f43, f44, f45, E46, H47, H48, H49, H50, hi, hl, hok, hv, hL0⟩ := hI37
     have bxs := okW.getD ox (by decide) i
     refine rk_seq ?_
     refine rk_seq ?_
     refine rk_reg ?_
     refine lw_v (.int .i64 ((i : Int))) (dv_move (T rfl f45)) ?_
     refine lw_v (.pointer (some ⟨b1, 1, none⟩)) (dv_fieldAddr (a := ⟨b1, 0, none⟩) (a' := ⟨b1, 1, none⟩) fo88_1 (T rfl f41) rfl) ?_
     refine lw_v (.slice Aa la ca) (dv_load1 (b := b1) (o := 1) agt86 (T rfl rfl) H47 rfl) ?_
     refine lw_v (.int .i64 ((la : Int))) (dv_len (ad := Aa) (l := la) (c := ca) us86 (T rfl rfl)) ?_
     refine lw_v (.bool (decide (((i : Int)) < ((la : Int))))) (dv_lss (a := (i : Int)) (b := (la : Int)) (T rfl rfl) (T rfl rfl)) ?_
     refine lw_nil ?_
     by_cases hb52 : ((i : Int)) < ((la : Int))
     · refine rk_ct (T rfl (congrArg Value.bool (decide_eq_true hb52))) ?_
       refine rk_skip ?_
       refine rk_seq ?_
       refine rk_block ?_
       refine rk_seq ?_
       refine rk_reg ?_
       refine lw_v (.int .u64 0) (dv_assign C) ?_
       refine lw_nil ?_
       refine rk_seq ?_
       refine rk_seq ?_
       refine rk_reg ?_
       refine lw_v (.int .i64 0) (dv_assign C) ?_
       refine lw_nil ?_
       refine rk_block ?_
       refine rk_loop (fun dm_ fr wl => ∃ (k : Nat) (M : List Int) (cy : Int), dm_ = ys.length - k ∧ fr 2 = .pointer (some ⟨b1, 0, none⟩) ∧ fr 3 = .pointer (some ⟨b6, 0, none⟩) ∧ fr 4 = .pointer (some ⟨b11, 0, none⟩) ∧ fr 5 = .slice (some ⟨b28, 0, none⟩) (((la) + (lb))) (((la) + (lb))) ∧ fr 6 = .int .i64 ((i : Int)) ∧ fr 7 = .int .u64 cy ∧ fr 8 = .int .i64 ((k : Int)) ∧ fr 28 = .int .i64 ((i : Int)) ∧ fr 29 = .pointer (some ⟨b1, 1, none⟩) ∧ fr 30 = .slice Aa la ca ∧ fr 31 = .int .i64 ((la : Int)) ∧ fr 32 = .bool (decide (((i : Int)) < ((la : Int)))) ∧ Below w.heap.size w wl ∧ wl.heap[b1]? = some (.cells #[.bool na, .slice Aa la ca] 88) ∧ wl.heap[b6]? = some (.cells #[.bool nb, .slice Ab lb cb] 88) ∧ wl.heap[b11]? = some (.cells #[.bool false, .slice none 0 0] 88) ∧ wl.heap[b28]? = some (.cells (M.map (Value.int .u32)).toArray 168) ∧ (k ≤ ys.length) ∧ (M.length = xs.length + ys.length) ∧ (okW (2 ^ 32) M) ∧ (0 ≤ cy ∧ cy < 4294967296) ∧ (valB (2 ^ 32) M + cy * (2 ^ 32) ^ (i + k) = valB (2 ^ 32) (xs.take i) * valB (2 ^ 32) ys + xs.getD i 0 * valB (2 ^ 32) (ys.take k) * (2 ^ 32) ^ i) ∧ (∀ q, i + ys.length ≤ q → M.getD q 0 = 0)) (ys.length - 0) ⟨0, L, 0, rfl, f41, f42, f43, f44, f45, rfl, (vi (by omega)), rfl, rfl, rfl, rfl, rfl, E46, H47, H48, H49, H50, (Nat.zero_le _), hl, hok, (by decide), (mul_start hv), hL0⟩ ?_
       intro d57 fr56 w53 hI54 ih55
       obtain ⟨k, M, cy, hd75, f58, f59, f60, f61, f62, f63, f64, f65, f66, f67, f68, f69, E70, H71, H72, H73, H74, hk, hMl, hok2, hcy, hM, hM0⟩ := hI54
       have bys := okW.getD oy (by decide) k
       have bMk := okW.getD hok2 (by decide) (i + k)
       refine rk_seq ?_
       refine rk_seq ?_
       refine rk_reg ?_
       refine lw_v (.int .i64 ((k : Int))) (dv_move (T rfl f64)) ?_
       refine lw_v (.pointer (some ⟨b6, 1, none⟩)) (dv_fieldAddr (a := ⟨b6, 0, none⟩) (a' := ⟨b6, 1, none⟩) fo88_1 (T rfl f59) rfl) ?_
       refine lw_v (.slice Ab lb cb) (dv_load1 (b := b6) (o := 1) agt86 (T rfl rfl) H72 rfl) ?_
       refine lw_v (.int .i64 ((lb : Int))) (dv_len (ad := Ab) (l := lb) (c := cb) us86 (T rfl rfl)) ?_
       refine lw_v (.bool (decide (((k : Int)) < ((lb : Int))))) (dv_lss (a := (k : Int)) (b := (lb : Int)) (T rfl rfl) (T rfl rfl)) ?_
       refine lw_nil ?_
       by_cases hb76 : ((k : Int)) < ((lb : Int))
       · refine rk_ct (T rfl (congrArg Value.bool (decide_eq_true hb76))) ?_
         refine rk_skip ?_
         refine rk_seq ?_
         refine rk_block ?_
         refine rk_seq ?_
         have h77 := (hxw.ext E70)
         have h78 := (hyw.ext E70)
         refine rk_any (fun w => w.heap[b1]? = some (.cells #[.bool na, .slice Aa la ca] 88) ∧ Wd w 168 .u32 Aa xs ∧ w.heap[b6]? = some (.cells #[.bool nb, .slice Ab lb cb] 88) ∧ Wd w 168 .u32 Ab ys ∧ w.heap[b28]? = some (.cells (M.map (Value.int .u32)).toArray 168)) [23] mo ?_
         intro w79 d80
         have E81 := below_ext E70 E70.size d80.ext
         have H82 := (d80.ext.blk H71)
         have h83 := (h77.ext d80.ext)
         have H84 := (d80.ext.blk H72)
         have h85 := (h78.ext d80.ext)
         have H86 := (d80.ext.blk H74)
         refine aw_pure 0 (.int .u64 cy) rfl (by kernel_rfl) .none ⟨H82, h83, H84, h85, H86⟩ (fun _ => dv_move (T rfl f63)) ?_
         refine aw_pure 1 (.pointer (some ⟨b1, 1, none⟩)) rfl (by kernel_rfl) .none ⟨H82, h83, H84, h85, H86⟩ (fun _ => dv_fieldAddr (a := ⟨b1, 0, none⟩) (a' := ⟨b1, 1, none⟩) fo88_1 (T rfl f58) rfl) ?_
         refine aw_load 2 (.slice Aa la ca) rfl (by kernel_rfl) .none ⟨H82, h83, H84, h85, H86⟩ (fun _ s => dv_load1 (b := b1) (o := 1) agt86 (T rfl rfl) s.1 rfl) ?_
         refine aw_pure 3 (.int .i64 ((i : Int))) rfl (by kernel_rfl) .none ⟨H82, h83, H84, h85, H86⟩ (fun _ => dv_move (T rfl f62)) ?_
         obtain ⟨g87, o88, rfl⟩ := Wd.at h83 (by first | omega | (simp; done) | (simp; omega))
         refine aw_pure 4 (.pointer (some ⟨g87, o88 + i, none⟩)) rfl (by kernel_rfl) .none ⟨H82, h83, H84, h85, H86⟩ (fun _ => dv_indexW (g := g87) (o := o88) (l := la) (c := ca) (i := i) (j := (i : Int)) us86 sz168 (T rfl rfl) (T rfl rfl) (by omega) (by first | omega | (simp; done) | (simp; omega))) ?_
         refine aw_load 5 (.int .u32 (xs.getD i 0)) rfl (by kernel_rfl) .none ⟨H82, h83, H84, h85, H86⟩ (fun _ s => dv_load agt168 (T rfl rfl) (Wd.cell s.2.1 (by first | omega | (simp; done) | (simp; omega)))) ?_
         refine aw_pure 6 (.int .u64 (xs.getD i 0)) rfl (by kernel_rfl) .none ⟨H82, h83, H84, h85, H86⟩ (fun _ => dv_conv (a := xs.getD i 0) (z := xs.getD i 0) ui168 ui36 (T rfl rfl) (wn_u64 (by omega) (by omega))) ?_
         refine aw_pure 7 (.pointer (some ⟨b6, 1, none⟩)) rfl (by kernel_rfl) .none ⟨H82, h83, H84, h85, H86⟩ (fun _ => dv_fieldAddr (a := ⟨b6, 0, none⟩) (a' := ⟨b6, 1, none⟩) fo88_1 (T rfl f59) rfl) ?_
         refine aw_load 8 (.slice Ab lb cb) rfl (by kernel_rfl) .none ⟨H82, h83, H84, h85, H86⟩ (fun _ s => dv_load1 (b := b6) (o := 1) agt86 (T rfl rfl) s.2.2.1 rfl) ?_
         refine aw_pure 9 (.int .i64 ((k : Int))) rfl (by kernel_rfl) .none ⟨H82, h83, H84, h85, H86⟩ (fun _ => dv_move (T rfl f64)) ?_
         obtain ⟨g89, o90, rfl⟩ := Wd.at h85 (by first | omega | (simp; done) | (simp; omega))
         refine aw_pure 10 (.pointer (some ⟨g89, o90 + k, none⟩)) rfl (by kernel_rfl) .none ⟨H82, h83, H84, h85, H86⟩ (fun _ => dv_indexW (g := g89) (o := o90) (l := lb) (c := cb) (i := k) (j := (k : Int)) us86 sz168 (T rfl rfl) (T rfl rfl) (by omega) (by first | omega | (simp; done) | (simp; omega))) ?_
         refine aw_load 11 (.int .u32 (ys.getD k 0)) rfl (by kernel_rfl) .none ⟨H82, h83, H84, h85, H86⟩ (fun _ s => dv_load agt168 (T rfl rfl) (Wd.cell s.2.2.2.1 (by first | omega | (simp; done) | (simp; omega)))) ?_
         refine aw_pure 12 (.int .u64 (ys.getD k 0)) rfl (by kernel_rfl) .none ⟨H82, h83, H84, h85, H86⟩ (fun _ => dv_conv (a := ys.getD k 0) (z := ys.getD k 0) ui168 ui36 (T rfl rfl) (wn_u64 (by omega) (by omega))) ?_
         have hm91 := mul_pos_bd (A := 4294967295) (show 0 ≤ (xs.getD i 0) by omega) (by omega) (show 0 ≤ (ys.getD k 0) by omega) (by omega)
         refine aw_pure 13 (.int .u64 ((xs.getD i 0) * (ys.getD k 0))) rfl (by kernel_rfl) .none ⟨H82, h83, H84, h85, H86⟩ (fun _ => dv_mul (a := xs.getD i 0) (b := ys.getD k 0) (z := (xs.getD i 0) * (ys.getD k 0)) (T rfl rfl) (T rfl rfl) (wn_u64 (by omega) (by omega))) ?_
         refine aw_pure 14 (.int .u64 (cy + ((xs.getD i 0) * (ys.getD k 0)))) rfl (by kernel_rfl) .none ⟨H82, h83, H84, h85, H86⟩ (fun _ => dv_add (a := cy) (b := (xs.getD i 0) * (ys.getD k 0)) (z := cy + ((xs.getD i 0) * (ys.getD k 0))) (T rfl rfl) (T rfl rfl) (wn_u64 (by omega) (by omega))) ?_
         refine aw_pure 15 (.slice (some ⟨b28, 0, none⟩) (((la) + (lb))) (((la) + (lb)))) rfl (by kernel_rfl) .none ⟨H82, h83, H84, h85, H86⟩ (fun _ => dv_move (T rfl f61)) ?_
         refine aw_pure 16 (.int .i64 ((i : Int))) rfl (by kernel_rfl) .none ⟨H82, h83, H84, h85, H86⟩ (fun _ => dv_move (T rfl f62)) ?_
         refine aw_pure 17 (.int .i64 ((k : Int))) rfl (by kernel_rfl) .none ⟨H82, h83, H84, h85, H86⟩ (fun _ => dv_move (T rfl f64)) ?_
         refine aw_pure 18 (.int .i64 (((i : Int)) + ((k : Int)))) rfl (by kernel_rfl) .none ⟨H82, h83, H84, h85, H86⟩ (fun _ => dv_add (a := (i : Int)) (b := (k : Int)) (z := ((i : Int)) + ((k : Int))) (T rfl rfl) (T rfl rfl) (wr_i64 (by omega) (by omega))) ?_
         refine aw_pure 19 (.pointer (some ⟨b28, (((i) + (k))), none⟩)) rfl (by kernel_rfl) .none ⟨H82, h83, H84, h85, H86⟩ (fun _ => dv_indexO (g := b28) (l := ((la) + (lb))) (c := ((la) + (lb))) (i := ((i) + (k))) (j := ((i : Int)) + ((k : Int))) us86 sz168 (T rfl rfl) (T rfl rfl) (by omega) (by first | omega | (simp; done) | (simp; omega))) ?_
         refine aw_load 20 (.int .u32 (M.getD (((i) + (k))) 0)) rfl (by kernel_rfl) .none ⟨H82, h83, H84, h85, H86⟩ (fun _ s => dv_loadW (L := M) (v := M.getD (((i) + (k))) 0) agt168 (T rfl rfl) s.2.2.2.2 (by first | omega | (simp; done) | (simp; omega)) rfl) ?_
         refine aw_pure 21 (.int .u64 (M.getD (((i) + (k))) 0)) rfl (by kernel_rfl) .none ⟨H82, h83, H84, h85, H86⟩ (fun _ => dv_conv (a := M.getD (((i) + (k))) 0) (z := M.getD (((i) + (k))) 0) ui168 ui36 (T rfl rfl) (wn_u64 (by omega) (by omega))) ?_
         refine aw_pure 22 (.int .u64 ((cy + ((xs.getD i 0) * (ys.getD k 0))) + (M.getD (((i) + (k))) 0))) rfl (by kernel_rfl) .none ⟨H82, h83, H84, h85, H86⟩ (fun _ => dv_add (a := cy + ((xs.getD i 0) * (ys.getD k 0))) (b := M.getD (((i) + (k))) 0) (z := (cy + ((xs.getD i 0) * (ys.getD k 0))) + (M.getD (((i) + (k))) 0)) (T rfl rfl) (T rfl rfl) (wn_u64 (by omega) (by omega))) ?_
         refine aw_last 23 (.int .u64 ((cy + ((xs.getD i 0) * (ys.getD k 0))) + (M.getD (((i) + (k))) 0))) rfl (by kernel_rfl) .none (fun _ => dv_assign (T rfl rfl)) ?_
         refine aw_done (by kernel_rfl) ?_
         refine rk_seq ?_
         refine rk_reg ?_
         refine lw_v (.slice (some ⟨b28, 0, none⟩) (((la) + (lb))) (((la) + (lb)))) (dv_move (T rfl f61)) ?_
         refine lw_v (.int .i64 ((i : Int))) (dv_move (T rfl f62)) ?_
         refine lw_v (.int .i64 ((k : Int))) (dv_move (T rfl f64)) ?_
         refine lw_v (.int .i64 (((i : Int)) + ((k : Int)))) (dv_add (a := (i : Int)) (b := (k : Int)) (z := ((i : Int)) + ((k : Int))) (T rfl rfl) (T rfl rfl) (wr_i64 (by omega) (by omega))) ?_
         refine lw_v (.int .u64 ((cy + ((xs.getD i 0) * (ys.getD k 0))) + (M.getD (((i) + (k))) 0))) (dv_move (T rfl rfl)) ?_
         refine lw_v (.int .u32 (((cy + ((xs.getD i 0) * (ys.getD k 0))) + (M.getD (((i) + (k))) 0)) % 4294967296)) (dv_conv (a := (cy + ((xs.getD i 0) * (ys.getD k 0))) + (M.getD (((i) + (k))) 0)) (z := ((cy + ((xs.getD i 0) * (ys.getD k 0))) + (M.getD (((i) + (k))) 0)) % 4294967296) ui36 ui168 (T rfl rfl) (wr_u32 _)) ?_
         refine lw_v (.pointer (some ⟨b28, (((i) + (k))), none⟩)) (dv_indexO (g := b28) (l := ((la) + (lb))) (c := ((la) + (lb))) (i := ((i) + (k))) (j := ((i : Int)) + ((k : Int))) us86 sz168 (T rfl rfl) (T rfl rfl) (by omega) (by first | omega | (simp; done) | (simp; omega))) ?_
         refine lw_e (oe_storeW (L := M) (i := ((i) + (k))) (z := ((cy + ((xs.getD i 0) * (ys.getD k 0))) + (M.getD (((i) + (k))) 0)) % 4294967296) sz168 (T rfl rfl) (T rfl rfl) H86 (by first | omega | (simp; done) | (simp; omega)) ?_)
         intro w92 s93 H94
         have E95 := below_st E81 N31 s93
         refine lw_nil ?_
         refine rk_reg ?_
         refine lw_v (.int .u64 ((cy + ((xs.getD i 0) * (ys.getD k 0))) + (M.getD (((i) + (k))) 0))) (dv_move (T rfl rfl)) ?_
         refine lw_v (.int .u64 (((cy + ((xs.getD i 0) * (ys.getD k 0))) + (M.getD (((i) + (k))) 0)) / 4294967296)) (dv_shr (a := (cy + ((xs.getD i 0) * (ys.getD k 0))) + (M.getD (((i) + (k))) 0)) (b := 32) (z := ((cy + ((xs.getD i 0) * (ys.getD k 0))) + (M.getD (((i) + (k))) 0)) / 4294967296) (T rfl rfl) C (by decide) (shr_c (n := 32) (by omega) (by decide))) ?_
         refine lw_v (.int .u64 (((cy + ((xs.getD i 0) * (ys.getD k 0))) + (M.getD (((i) + (k))) 0)) / 4294967296)) (dv_assign (T rfl rfl)) ?_
         refine lw_nil ?_
         refine rk_inBlock ?_
         refine rk_reg ?_
         refine lw_v (.int .i64 ((k : Int))) (dv_move (T rfl f64)) ?_
         refine lw_v (.int .i64 (((k : Int)) + 1)) (dv_add (a := (k : Int)) (b := 1) (z := ((k : Int)) + 1) (T rfl rfl) C (wr_i64 (by omega) (by omega))) ?_
         refine lw_v (.int .i64 (((k : Int)) + 1)) (dv_assign (T rfl rfl)) ?_
         refine lw_nil ?_
         have H96 := (s93.blk H82 (by omega))
         have H97 := (s93.blk H84 (by omega))
         have H98 := (s93.blk (d80.ext.blk H73) (by omega))
         exact ih55 (ys.length - ((k + 1))) _ _ (by rw [hd75]; omega) ⟨(k + 1), (M.set (((i) + (k))) (((cy + ((xs.getD i 0) * (ys.getD k 0))) + (M.getD (((i) + (k))) 0)) % 4294967296)), (((cy + ((xs.getD i 0) * (ys.getD k 0))) + (M.getD (((i) + (k))) 0)) / 4294967296), rfl, f58, f59, f60, f61, f62, rfl, (vi (by omega)), f65, f66, f67, f68, f69, E95, H96, H97, H98, H94, (by omega), (by simp; omega), (okW.set hok2 (by omega) (by omega) _), (by omega), (mul_step (by omega) hM rfl rfl (by omega)), (zero_set hM0 (by omega))⟩
       · refine rk_cf (T rfl (congrArg Value.bool (decide_eq_false hb76))) ?_
         refine rk_exit rfl ?_
         refine rk_reg ?_
         refine lw_v (.slice (some ⟨b28, 0, none⟩) (((la) + (lb))) (((la) + (lb)))) (dv_move (T rfl f61)) ?_
         refine lw_v (.int .i64 ((i : Int))) (dv_move (T rfl f62)) ?_
         refine lw_v (.pointer (some ⟨b6, 1, none⟩)) (dv_fieldAddr (a := ⟨b6, 0, none⟩) (a' := ⟨b6, 1, none⟩) fo88_1 (T rfl f59) rfl) ?_
         refine lw_v (.slice Ab lb cb) (dv_load1 (b := b6) (o := 1) agt86 (T rfl rfl) H72 rfl) ?_
         refine lw_v (.int .i64 ((lb : Int))) (dv_len (ad := Ab) (l := lb) (c := cb) us86 (T rfl rfl)) ?_
         refine lw_v (.int .i64 (((i : Int)) + ((lb : Int)))) (dv_add (a := (i : Int)) (b := (lb : Int)) (z := ((i : Int)) + ((lb : Int))) (T rfl rfl) (T rfl rfl) (wr_i64 (by omega) (by omega))) ?_
         refine lw_v (.int .u64 cy) (dv_move (T rfl f63)) ?_
         refine lw_v (.int .u32 ((cy) % 4294967296)) (dv_conv (a := cy) (z := (cy) % 4294967296) ui36 ui168 (T rfl rfl) (wr_u32 _)) ?_
         refine lw_v (.pointer (some ⟨b28, (((i) + (lb))), none⟩)) (dv_indexO (g := b28) (l := ((la) + (lb))) (c := ((la) + (lb))) (i := ((i) + (lb))) (j := ((i : Int)) + ((lb : Int))) us86 sz168 (T rfl rfl) (T rfl rfl) (by omega) (by first | omega | (simp; done) | (simp; omega))) ?_
         refine lw_e (oe_storeW (L := M) (i := ((i) + (lb))) (z := (cy) % 4294967296) sz168 (T rfl rfl) (T rfl rfl) H74 (by first | omega | (simp; done) | (simp; omega)) ?_)
         intro w99 s100 H101
         have E102 := below_st E70 N31 s100
         refine lw_nil ?_
         refine rk_inBlock ?_
         refine rk_reg ?_
         refine lw_v (.int .i64 ((i : Int))) (dv_move (T rfl f62)) ?_
         refine lw_v (.int .i64 (((i : Int)) + 1)) (dv_add (a := (i : Int)) (b := 1) (z := ((i : Int)) + 1) (T rfl rfl) C (wr_i64 (by omega) (by omega))) ?_
         refine lw_v (.int .i64 (((i : Int)) + 1)) (dv_assign (T rfl rfl)) ?_
         refine lw_nil ?_
         have H103 := (s100.blk H71 (by omega))
         have H104 := (s100.blk H72 (by omega))
         have H105 := (s100.blk H73 (by omega))
         exact ih38 (xs.length - ((i + 1))) _ _ (by rw [hd51]; omega) ⟨(i + 1), (M.set (((i) + (lb))) ((cy) % 4294967296)), rfl, f58, f59, f60, f61, (vi (by omega)), E102, H103, H104, H105, H101, (by omega), (by simp; omega), (okW.set hok2 (by omega) (by omega) _), (by have hk : k = ys.length := (by omega); subst hk; rw [← hyl]; rw [Int.emod_eq_of_lt hcy.1 hcy.2]; exact mul_last (by omega) (hM0 _ (by omega)) hM), (by rw [← hyl]; intro q hq; exact zero_set1 hM0 q (by omega))⟩
     · refine rk_cf (T rfl (congrArg Value.bool (decide_eq_false hb52))) ?_
       refine rk_exit rfl ?_
       refine rk_seq ?_
       refine rk_reg ?_
       refine lw_v (.pointer (some ⟨b1, 0, none⟩)) (dv_fieldAddr (a := ⟨b1, 0, none⟩) (a' := ⟨b1, 0, none⟩) fo88_0 (T rfl f41) rfl) ?_
       refine lw_v (.bool na) (dv_load1 (b := b1) (o := 0) agt4 (T rfl rfl) H47 rfl) ?_
       refine lw_v (.pointer (some ⟨b6, 0, none⟩)) (dv_fieldAddr (a := ⟨b6, 0, none⟩) (a' := ⟨b6, 0, none⟩) fo88_0 (T rfl f42) rfl) ?_
       refine lw_v (.bool nb) (dv_load1 (b := b6) (o := 0) agt4 (T rfl rfl) H48 rfl) ?_
       refine lw_v (.bool (na != nb)) (dv_neqb (a := na) (b := nb) ub4 (T rfl rfl) (T rfl rfl)) ?_
       refine lw_v (.slice (some ⟨b28, 0, none⟩) (((la) + (lb))) (((la) + (lb)))) (dv_move (T rfl f44)) ?_
       refine lw_e (oe_callf (vs := [.bool (na != nb), .slice (some ⟨b28, 0, none⟩) (((la) + (lb))) (((la) + (lb)))]) co131 (ar2 (T rfl rfl) (T rfl rfl)) (l1Trim_num (s := (32 * (((la) + (lb))))) (neg := na != nb) (⟨L, (by first | (simp; done) | (simp; omega) | omega), (by first | (simp; done) | (simp; omega) | omega), Wd.ownW H50, hok, rfl⟩ : Ws _ _ _ _ _ _ _ _) (by first | omega | (simp; done) | (simp; omega)) (valB_sz hok (by first | (simp; done) | (simp; omega) | omega))) ?_)
       rintro _ w111 ⟨nb106, A107, n108, c109, rfl, e112, hn110⟩
       have E113 := below_ext E46 E46.size e112
       have lhn110 := Num.len (by decide) hn110
       have H114 := (e112.blk H49)
       refine lw_e (oe_store (v := .agg #[.bool nb106, .slice A107 n108 c109]) (vs := [.bool nb106, .slice A107 n108 c109]) (l := [.bool nb106, .slice A107 n108 c109]) (T rfl f43) (T rfl rfl) sz88 rfl rfl rfl H114 rfl ?_)
       intro w115 s116 H117
       have E118 := below_st E113 N14 s116
       refine lw_nil ?_
       refine rk_ret Try.func109 (v := .agg #[.bool nb106, .slice A107 n108 c109]) (res1 Try.results109 (rv_cells (l := [.bool nb106, .slice A107 n108 c109]) agt88 sz88 rfl f43 H117 rfl)) ⟨_, rfl, ?_⟩
       have h119 := (hn110.st s116 H114 (by decide))
       exact ⟨_, _, _, _, rfl, E118, h119.tight (by rw [hv, List.take_of_length_le (by omega), ← hxv, ← hyv]; exact sg_mul ha.neg_iff hb.neg_iff) (by rw [Int.natAbs_mul]; exact nat_mul_sz ha.lt hb.lt)⟩
end Go.Proofs.Ytmbpomcbdopgnaa.W
set_option linter.unusedVariables false
set_option linter.unusedSimpArgs false
namespace Go.Proofs.Ytmbpomcbdopgnaa.W
open Go Go.RowKit Go.Proofs.Ytmbpomcbdopgnaa.Fw
attribute [local irreducible] RunK LW AW DV OE Ct
theorem lzS_ok {w : World} {x : Int} (h0 : 0 < x) (h1 : x < 18446744073709551616) : Ct Try.prog 134 [.int .u64 x] w fun v w1 => ∃ S : Nat, v = .int .i64 (S : Int) ∧ Ext w w1 ∧ S ≤ 63 ∧ 9223372036854775808 ≤ x * 2 ^ S ∧ x * 2 ^ S < 18446744073709551616 := by
 obtain ⟨S, hS, h2, h3, h4⟩ := norm_word h0 h1
 exact (lz_ok (w := w) ⟨by omega, h1⟩).mono fun v w1 ⟨hv, he⟩ => ⟨S, by rw [hv, hS], he, h2, h3, h4⟩
set_option maxHeartbeats 1000000 in
theorem div64_ok {w : World} {hi lo y : Int} (hhi : 0 ≤ hi) (hlt : hi < y) (hyl : y < 18446744073709551616) (hlo : 0 ≤ lo ∧ lo < 18446744073709551616) : Ct Try.prog 147 [.int .u64 hi, .int .u64 lo, .int .u64 y] w fun v w1 => v = .tuple #[.int .u64 ((hi * 18446744073709551616 + lo) / y), .int .u64 ((hi * 18446744073709551616 + lo) % y)] ∧ Ext w w1 := by
 refine ct_run (n := 135) Try.func147 rfl Try.ntmps147 rfl ?_
 have E0 : Below w.heap.size w w := Below.refl _ _
 refine rk_seq ?_
 refine rk_reg ?_
 refine lw_v (.int .u64 0) (dv_assign C) ?_
 refine lw_v (.int .u64 0) (dv_assign C) ?_
 refine lw_nil ?_
 refine rk_seq ?_
 refine rk_seq ?_
 refine rk_reg ?_
 refine lw_v (.int .u64 y) (dv_move (T rfl rfl)) ?_
 refine lw_v (.bool (decide (y = 0))) (dv_eql (a := y) (b := 0) (T rfl rfl) C) ?_
 refine lw_nil ?_
 by_cases hb1 : y = 0
 · exfalso; omega
 · refine rk_cf (T rfl (congrArg Value.bool (decide_eq_false hb1))) ?_
   refine rk_skip ?_
   refine rk_seq ?_
   refine rk_seq ?_
   refine rk_reg ?_
   refine lw_v (.int .u64 y) (dv_move (T rfl rfl)) ?_
   refine lw_v (.int .u64 hi) (dv_move (T rfl rfl)) ?_
   refine lw_v (.bool (decide (y ≤ hi))) (dv_leq (a := y) (b := hi) (T rfl rfl) (T rfl rfl)) ?_
   refine lw_nil ?_
   by_cases hb2 : y ≤ hi
   · exfalso; omega
   · refine rk_cf (T rfl (congrArg Value.bool (decide_eq_false hb2))) ?_
     refine rk_skip ?_
     refine rk_seq ?_
     refine rk_seq ?_
     refine rk_reg ?_
     refine lw_v (.int .u64 hi) (dv_move (T rfl rfl)) ?_
     refine lw_v (.bool (decide (hi = 0))) (dv_eql (a := hi) (b := 0) (T rfl rfl) C) ?_
     refine lw_nil ?_
     by_cases hb3 : hi = 0
     · refine rk_ct (T rfl (congrArg Value.bool (decide_eq_true hb3))) ?_
       refine rk_seq ?_
       refine rk_any (fun _ => True) [7] mo ?_
       intro w4 d5
       have E6 := below_ext E0 E0.size d5.ext
       refine aw_pure 0 (.int .u64 lo) rfl (by kernel_rfl) .none trivial (fun _ => dv_move (T rfl rfl)) ?_
       refine aw_pure 1 (.int .u64 y) rfl (by kernel_rfl) .none trivial (fun _ => dv_move (T rfl rfl)) ?_
       have hq7 := ediv_rg (a := lo) (b := y) (by omega) (by omega)
       refine aw_pure 2 (.int .u64 (lo / y)) rfl (by kernel_rfl) .none trivial (fun _ => dv_quo (a := lo) (b := y) (z := lo / y) (T rfl rfl) (T rfl rfl) (by omega) (quo_c (by omega) (by omega) (wn_u64 (by omega) (by omega)))) ?_
       refine aw_pure 3 (.int .u64 lo) rfl (by kernel_rfl) .none trivial (fun _ => dv_move (T rfl rfl)) ?_
       refine aw_pure 4 (.int .u64 y) rfl (by kernel_rfl) .none trivial (fun _ => dv_move (T rfl rfl)) ?_
       refine aw_pure 5 (.int .u64 (lo % y)) rfl (by kernel_rfl) .none trivial (fun _ => dv_rem (a := lo) (b := y) (z := lo % y) (T rfl rfl) (T rfl rfl) (by omega) (rem_c (by omega) rfl)) ?_
       refine aw_pure 6 (.int .u64 (lo / y)) rfl (by kernel_rfl) .none trivial (fun _ => dv_assign (T rfl rfl)) ?_
       refine aw_last 7 (.int .u64 (lo % y)) rfl (by kernel_rfl) .none (fun _ => dv_assign (T rfl rfl)) ?_
       refine aw_done (by kernel_rfl) ?_
       refine rk_ret Try.func147 (v := .tuple #[.int .u64 (lo / y), .int .u64 (lo % y)]) (res2 Try.results147 (rv_tmp rfl rfl) (rv_tmp rfl rfl)) ⟨_, rfl, ?_⟩
       have h0 : hi = 0 := by omega
       subst h0
       exact ⟨tu2 (vi (by rw [Int.zero_mul, Int.zero_add])) (vi (by rw [Int.zero_mul, Int.zero_add])), E6⟩
     · refine rk_cf (T rfl (congrArg Value.bool (decide_eq_false hb3))) ?_
       refine rk_skip ?_
       refine rk_seq ?_
       refine rk_reg ?_
       refine lw_v (.int .u64 y) (dv_move (T rfl rfl)) ?_
       refine lw_e (oe_callf (vs := [.int .u64 y]) co134 (ar1 (T rfl rfl)) (lzS_ok (by omega) (by omega)) ?_)
       rintro _ w12 ⟨S8, rfl, e13, hs9, hs10, hs11⟩
       have E14 := below_ext E0 E0.size e13
       refine lw_v (.int .u64 ((S8 : Int))) (dv_conv (a := (S8 : Int)) (z := (S8 : Int)) ui3 ui158 (T rfl rfl) (wn_u64 (by omega) (by omega))) ?_
       refine lw_v (.int .u64 ((S8 : Int))) (dv_assign (T rfl rfl)) ?_
       refine lw_nil ?_
       refine rk_seq ?_
       refine rk_reg ?_
       refine lw_v (.int .u64 y) (dv_move (T rfl rfl)) ?_
       refine lw_v (.int .u64 ((S8 : Int))) (dv_move (T rfl rfl)) ?_
       refine lw_v (.int .u64 (y * 2 ^ S8)) (dv_shl (a := y) (b := (S8 : Int)) (z := y * 2 ^ S8) (T rfl rfl) (T rfl rfl) (by omega) (shl_w (K := S8) (by omega) (show _ ≤ 64 by omega) (wn_u64 (by omega) (by omega)))) ?_
       refine lw_v (.int .u64 (y * 2 ^ S8)) (dv_assign (T rfl rfl)) ?_
       refine lw_nil ?_
       refine rk_seq ?_
       obtain ⟨Y, ha15⟩ : ∃ q_ : Int, q_ = y * 2 ^ S8 := ⟨_, rfl⟩
       have hY : 9223372036854775808 ≤ Y ∧ Y < 18446744073709551616 := by rw [ha15]; exact ⟨hs10, hs11⟩
       have htop := shl_top (hi := hi) (y := y) (lo := lo) hs9 hhi hlt hs11 hlo.1 hlo.2
       refine rk_reg ?_
       refine lw_v (.int .u64 Y) (dv_move (T rfl (vi (ha15.symm)))) ?_
       refine lw_v (.int .u64 (Y / 4294967296)) (dv_shr (a := Y) (b := 32) (z := Y / 4294967296) (T rfl rfl) C (by decide) (shr_c (n := 32) (by omega) (by decide))) ?_
       refine lw_v (.int .u64 (Y / 4294967296)) (dv_assign (T rfl rfl)) ?_
       refine lw_nil ?_
       refine rk_seq ?_
       refine rk_reg ?_
       refine lw_v (.int .u64 Y) (dv_move (T rfl (vi (ha15.symm)))) ?_
       refine lw_v (.int .u64 (Y % 4294967296)) (dv_and (a := Y) (b := 4294967295) (z := Y % 4294967296) (T rfl rfl) C (and_mask (n := 32) (by omega) (by omega) (by decide))) ?_
       refine lw_v (.int .u64 (Y % 4294967296)) (dv_assign (T rfl rfl)) ?_
       refine lw_nil ?_
       refine rk_seq ?_
       refine rk_reg ?_
       refine lw_v (.int .u64 hi) (dv_move (T rfl rfl)) ?_
       refine lw_v (.int .u64 ((S8 : Int))) (dv_move (T rfl rfl)) ?_
       refine lw_v (.int .u64 (hi * 2 ^ S8)) (dv_shl (a := hi) (b := (S8 : Int)) (z := hi * 2 ^ S8) (T rfl rfl) (T rfl rfl) (by omega) (shl_w (K := S8) (by omega) (show _ ≤ 64 by omega) (wn_u64 (by omega) (by omega)))) ?_
       refine lw_v (.int .u64 lo) (dv_move (T rfl rfl)) ?_
       refine lw_v (.int .u64 ((S8 : Int))) (dv_move (T rfl rfl)) ?_
       refine lw_v (.int .u64 (64 - ((S8 : Int)))) (dv_sub (a := 64) (b := (S8 : Int)) (z := 64 - ((S8 : Int))) C (T rfl rfl) (wn_u64 (by omega) (by omega))) ?_
       refine lw_v (.int .u64 (lo / 2 ^ ((64 - (S8))))) (dv_shr (a := lo) (b := 64 - ((S8 : Int))) (z := lo / 2 ^ ((64 - (S8)))) (T rfl rfl) (T rfl rfl) (by omega) (shr_v (K := (64 - (S8))) (by omega) (show _ ≤ 64 by omega))) ?_
       refine lw_v (.int .u64 ((hi * 2 ^ S8) + (lo / 2 ^ ((64 - (S8)))))) (dv_or (a := hi * 2 ^ S8) (b := lo / 2 ^ ((64 - (S8)))) (z := (hi * 2 ^ S8) + (lo / 2 ^ ((64 - (S8))))) (T rfl rfl) (T rfl rfl) ((or_add (k := .u64) (a := lo / 2 ^ (64 - S8)) (b := hi * 2 ^ S8) (i := S8) rfl htop.1 htop.2.1 htop.2.2.1 (Int.mul_emod_left _ _) (lt64 (by omega)) (lt64 (by omega))).2.trans (Int.add_comm _ _))) ?_
       refine lw_v (.int .u64 ((hi * 2 ^ S8) + (lo / 2 ^ ((64 - (S8)))))) (dv_assign (T rfl rfl)) ?_
       refine lw_nil ?_
       refine rk_seq ?_
       obtain ⟨Uu, ha16⟩ : ∃ q_ : Int, q_ = hi * 2 ^ S8 + lo / 2 ^ (64 - S8) := ⟨_, rfl⟩
       have hUr : 0 ≤ Uu ∧ Uu < Y := by rw [ha16, ha15]; omega
       refine rk_reg ?_
       refine lw_v (.int .u64 lo) (dv_move (T rfl rfl)) ?_
       refine lw_v (.int .u64 ((S8 : Int))) (dv_move (T rfl rfl)) ?_
       refine lw_v (.int .u64 ((lo * 2 ^ S8) % 18446744073709551616)) (dv_shl (a := lo) (b := (S8 : Int)) (z := (lo * 2 ^ S8) % 18446744073709551616) (T rfl rfl) (T rfl rfl) (by omega) (shl_w (K := S8) (by omega) (show _ ≤ 64 by omega) (wr_u64 _))) ?_
       refine lw_v (.int .u64 ((lo * 2 ^ S8) % 18446744073709551616)) (dv_assign (T rfl rfl)) ?_
       refine lw_nil ?_
       refine rk_seq ?_
       obtain ⟨un, ha17⟩ : ∃ q_ : Int, q_ = lo * 2 ^ S8 % 18446744073709551616 := ⟨_, rfl⟩
       have hun : 0 ≤ un ∧ un < 18446744073709551616 := by rw [ha17]; exact ⟨Int.emod_nonneg _ (by decide), Int.emod_lt_of_pos _ (by decide)⟩
       have hN : (Uu * 4294967296 + un / 4294967296) * 4294967296 + un % 4294967296 = (hi * 18446744073709551616 + lo) * 2 ^ S8 := by
        have h1 := shl_split (x := lo) (S := S8) (by omega)
        rw [← ha17] at h1
        have h2 : (hi * 18446744073709551616 + lo) * 2 ^ S8 = (hi * 2 ^ S8) * 18446744073709551616 + lo * 2 ^ S8 := by grind
        rw [h2, ← h1, ha16]; omega
       have hg := half_guess (U := Uu) (u := un / 4294967296) (Y := Y) hY.1 hY.2 hUr.1 hUr.2 (by omega) (by omega)
       refine rk_reg ?_
       refine lw_v (.int .u64 un) (dv_move (T rfl (vi (ha17.symm)))) ?_
       refine lw_v (.int .u64 (un / 4294967296)) (dv_shr (a := un) (b := 32) (z := un / 4294967296) (T rfl rfl) C (by decide) (shr_c (n := 32) (by omega) (by decide))) ?_
       refine lw_v (.int .u64 (un / 4294967296)) (dv_assign (T rfl rfl)) ?_
       refine lw_nil ?_
       refine rk_seq ?_
       refine rk_reg ?_
       refine lw_v (.int .u64 un) (dv_move (T rfl (vi (ha17.symm)))) ?_
       refine lw_v (.int .u64 (un % 4294967296)) (dv_and (a := un) (b := 4294967295) (z := un % 4294967296) (T rfl rfl) C (and_mask (n := 32) (by omega) (by omega) (by decide))) ?_
       refine lw_v (.int .u64 (un % 4294967296)) (dv_assign (T rfl rfl)) ?_
       refine lw_nil ?_
       refine rk_seq ?_
       refine rk_reg ?_
       refine lw_v (.int .u64 Uu) (dv_move (T rfl (vi (ha16.symm)))) ?_
       refine lw_v (.int .u64 (Y / 4294967296)) (dv_move (T rfl rfl)) ?_
       have hq18 := ediv_rg (a := Uu) (b := Y / 4294967296) (by omega) (by omega)
       refine lw_v (.int .u64 (Uu / (Y / 4294967296))) (dv_quo (a := Uu) (b := Y / 4294967296) (z := Uu / (Y / 4294967296)) (T rfl rfl) (T rfl rfl) (by omega) (quo_c (by omega) (by omega) (wn_u64 (by omega) (by omega)))) ?_
       refine lw_v (.int .u64 (Uu / (Y / 4294967296))) (dv_assign (T rfl rfl)) ?_
       refine lw_nil ?_
       refine rk_seq ?_
       refine rk_reg ?_
       refine lw_v (.int .u64 Uu) (dv_move (T rfl (vi (ha16.symm)))) ?_
       refine lw_v (.int .u64 (Uu / (Y / 4294967296))) (dv_move (T rfl rfl)) ?_
       refine lw_v (.int .u64 (Y / 4294967296)) (dv_move (T rfl rfl)) ?_
       refine lw_v (.int .u64 ((Uu / (Y / 4294967296)) * (Y / 4294967296))) (dv_mul (a := Uu / (Y / 4294967296)) (b := Y / 4294967296) (z := (Uu / (Y / 4294967296)) * (Y / 4294967296)) (T rfl rfl) (T rfl rfl) (wn_u64 (by omega) (by omega))) ?_
       refine lw_v (.int .u64 (Uu - ((Uu / (Y / 4294967296)) * (Y / 4294967296)))) (dv_sub (a := Uu) (b := (Uu / (Y / 4294967296)) * (Y / 4294967296)) (z := Uu - ((Uu / (Y / 4294967296)) * (Y / 4294967296))) (T rfl rfl) (T rfl rfl) (wn_u64 (by omega) (by omega))) ?_
       refine lw_v (.int .u64 (Uu - ((Uu / (Y / 4294967296)) * (Y / 4294967296)))) (dv_assign (T rfl rfl)) ?_
       refine lw_nil ?_
       refine rk_seq ?_
       refine rk_join (fun fr wl => ∃ (qa : Int), fr 2 = .int .u64 Y ∧ fr 6 = .int .u64 0 ∧ fr 7 = .int .u64 0 ∧ fr 8 = .int .u64 ((S8 : Int)) ∧ fr 9 = .int .u64 (Y / 4294967296) ∧ fr 10 = .int .u64 (Y % 4294967296) ∧ fr 11 = .int .u64 Uu ∧ fr 13 = .int .u64 (un / 4294967296) ∧ fr 14 = .int .u64 (un % 4294967296) ∧ fr 15 = .int .u64 qa ∧ Below w.heap.size w wl ∧ (qa * Y ≤ Uu * 4294967296 + un / 4294967296) ∧ (Uu * 4294967296 + un / 4294967296 < (qa + 1) * Y) ∧ (0 ≤ qa)) ?_ (fun hj21 => ?_)
       · intro fr22 w19 hI20
         obtain ⟨qa, f23, f24, f25, f26, f27, f28, f29, f30, f31, f32, E33, haqa, hbqa, h0qa⟩ := hI20
         refine rk_seq ?_
         have hlt1 := half_lt haqa hUr.2 (by omega) (by omega)
         have heq1 : (qa + 1) * Y = qa * Y + Y := by grind
         refine rk_reg ?_
         refine lw_v (.int .u64 Uu) (dv_move (T rfl f29)) ?_
         refine lw_v (.int .u64 ((Uu * 4294967296) % 18446744073709551616)) (dv_mul (a := Uu) (b := 4294967296) (z := (Uu * 4294967296) % 18446744073709551616) (T rfl rfl) C (wr_u64 _)) ?_
         refine lw_v (.int .u64 (un / 4294967296)) (dv_move (T rfl f30)) ?_
         refine lw_v (.int .u64 ((((Uu * 4294967296) % 18446744073709551616) + (un / 4294967296)) % 18446744073709551616)) (dv_add (a := (Uu * 4294967296) % 18446744073709551616) (b := un / 4294967296) (z := (((Uu * 4294967296) % 18446744073709551616) + (un / 4294967296)) % 18446744073709551616) (T rfl rfl) (T rfl rfl) (wr_u64 _)) ?_
         refine lw_v (.int .u64 qa) (dv_move (T rfl f32)) ?_
         refine lw_v (.int .u64 Y) (dv_move (T rfl f23)) ?_
         refine lw_v (.int .u64 ((qa * Y) % 18446744073709551616)) (dv_mul (a := qa) (b := Y) (z := (qa * Y) % 18446744073709551616) (T rfl rfl) (T rfl rfl) (wr_u64 _)) ?_
         refine lw_v (.int .u64 ((((((Uu * 4294967296) % 18446744073709551616) + (un / 4294967296)) % 18446744073709551616) - ((qa * Y) % 18446744073709551616)) % 18446744073709551616)) (dv_sub (a := (((Uu * 4294967296) % 18446744073709551616) + (un / 4294967296)) % 18446744073709551616) (b := (qa * Y) % 18446744073709551616) (z := (((((Uu * 4294967296) % 18446744073709551616) + (un / 4294967296)) % 18446744073709551616) - ((qa * Y) % 18446744073709551616)) % 18446744073709551616) (T rfl rfl) (T rfl rfl) (wr_u64 _)) ?_
         refine lw_v (.int .u64 ((((((Uu * 4294967296) % 18446744073709551616) + (un / 4294967296)) % 18446744073709551616) - ((qa * Y) % 18446744073709551616)) % 18446744073709551616)) (dv_assign (T rfl rfl)) ?_
         refine lw_nil ?_
         refine rk_seq ?_
         have hVe : (((((Uu * 4294967296) % 18446744073709551616) + (un / 4294967296)) % 18446744073709551616) - ((qa * Y) % 18446744073709551616)) % 18446744073709551616 = Uu * 4294967296 + un / 4294967296 - qa * Y := by omega
         obtain ⟨V, ha34⟩ : ∃ q_ : Int, q_ = Uu * 4294967296 + un / 4294967296 - qa * Y := ⟨_, rfl⟩
         have hVr : 0 ≤ V ∧ V < Y := by omega
         have hg0 := half_guess (U := V) (u := un % 4294967296) (Y := Y) hY.1 hY.2 hVr.1 hVr.2 (by omega) (by omega)
         refine rk_reg ?_
         refine lw_v (.int .u64 V) (dv_move (T rfl (vi ((hVe).trans ha34.symm)))) ?_
         refine lw_v (.int .u64 (Y / 4294967296)) (dv_move (T rfl f27)) ?_
         have hq35 := ediv_rg (a := V) (b := Y / 4294967296) (by omega) (by omega)
         refine lw_v (.int .u64 (V / (Y / 4294967296))) (dv_quo (a := V) (b := Y / 4294967296) (z := V / (Y / 4294967296)) (T rfl rfl) (T rfl rfl) (by omega) (quo_c (by omega) (by omega) (wn_u64 (by omega) (by omega)))) ?_
         refine lw_v (.int .u64 (V / (Y / 4294967296))) (dv_assign (T rfl rfl)) ?_
         refine lw_nil ?_
         refine rk_seq ?_
         refine rk_reg ?_
         refine lw_v (.int .u64 V) (dv_move (T rfl (vi ((hVe).trans ha34.symm)))) ?_
         refine lw_v (.int .u64 (V / (Y / 4294967296))) (dv_move (T rfl rfl)) ?_
         refine lw_v (.int .u64 (Y / 4294967296)) (dv_move (T rfl f27)) ?_
         refine lw_v (.int .u64 ((V / (Y / 4294967296)) * (Y / 4294967296))) (dv_mul (a := V / (Y / 4294967296)) (b := Y / 4294967296) (z := (V / (Y / 4294967296)) * (Y / 4294967296)) (T rfl rfl) (T rfl rfl) (wn_u64 (by omega) (by omega))) ?_
         refine lw_v (.int .u64 (V - ((V / (Y / 4294967296)) * (Y / 4294967296)))) (dv_sub (a := V) (b := (V / (Y / 4294967296)) * (Y / 4294967296)) (z := V - ((V / (Y / 4294967296)) * (Y / 4294967296))) (T rfl rfl) (T rfl rfl) (wn_u64 (by omega) (by omega))) ?_
         refine lw_v (.int .u64 (V - ((V / (Y / 4294967296)) * (Y / 4294967296)))) (dv_assign (T rfl rfl)) ?_
         refine lw_nil ?_
         refine rk_seq ?_
         refine rk_join (fun fr wl => ∃ (qb : Int), fr 2 = .int .u64 Y ∧ fr 6 = .int .u64 0 ∧ fr 7 = .int .u64 0 ∧ fr 8 = .int .u64 ((S8 : Int)) ∧ fr 14 = .int .u64 (un % 4294967296) ∧ fr 15 = .int .u64 qa ∧ fr 17 = .int .u64 V ∧ fr 18 = .int .u64 qb ∧ Below w.heap.size w wl ∧ (qb * Y ≤ V * 4294967296 + un % 4294967296) ∧ (V * 4294967296 + un % 4294967296 < (qb + 1) * Y) ∧ (0 ≤ qb)) ?_ (fun hj38 => ?_)
         · intro fr39 w36 hI37
           obtain ⟨qb, f40, f41, f42, f43, f44, f45, f46, f47, E48, haqb, hbqb, h0qb⟩ := hI37
           refine rk_seq ?_
           have hlt2 := half_lt haqb hVr.2 (by omega) (by omega)
           have heq2 : (qb + 1) * Y = qb * Y + Y := by grind
           have ht := two_halves (hi := hi) (lo := lo) (y := y) (p := 2 ^ S8) (N := 0) (U := Uu) (u1 := un / 4294967296) (u0 := un % 4294967296) (q1 := qa) (q0 := qb) (two_pos S8) (by omega) hN (by rw [← ha15]; exact haqa) (by rw [← ha15]; exact hbqa) (by rw [← ha15, ← ha34]; exact haqb) (by rw [← ha15, ← ha34]; exact hbqb) rfl
           rw [← ha15, ← ha34] at ht
           refine rk_reg ?_
           refine lw_v (.int .u64 qa) (dv_move (T rfl f45)) ?_
           refine lw_v (.int .u64 ((qa * 4294967296) % 18446744073709551616)) (dv_mul (a := qa) (b := 4294967296) (z := (qa * 4294967296) % 18446744073709551616) (T rfl rfl) C (wr_u64 _)) ?_
           refine lw_v (.int .u64 qb) (dv_move (T rfl f47)) ?_
           refine lw_v (.int .u64 ((((qa * 4294967296) % 18446744073709551616) + qb) % 18446744073709551616)) (dv_add (a := (qa * 4294967296) % 18446744073709551616) (b := qb) (z := (((qa * 4294967296) % 18446744073709551616) + qb) % 18446744073709551616) (T rfl rfl) (T rfl rfl) (wr_u64 _)) ?_
           refine lw_v (.int .u64 V) (dv_move (T rfl f46)) ?_
           refine lw_v (.int .u64 ((V * 4294967296) % 18446744073709551616)) (dv_mul (a := V) (b := 4294967296) (z := (V * 4294967296) % 18446744073709551616) (T rfl rfl) C (wr_u64 _)) ?_
           refine lw_v (.int .u64 (un % 4294967296)) (dv_move (T rfl f44)) ?_
           refine lw_v (.int .u64 ((((V * 4294967296) % 18446744073709551616) + (un % 4294967296)) % 18446744073709551616)) (dv_add (a := (V * 4294967296) % 18446744073709551616) (b := un % 4294967296) (z := (((V * 4294967296) % 18446744073709551616) + (un % 4294967296)) % 18446744073709551616) (T rfl rfl) (T rfl rfl) (wr_u64 _)) ?_
           refine lw_v (.int .u64 qb) (dv_move (T rfl f47)) ?_
           refine lw_v (.int .u64 Y) (dv_move (T rfl f40)) ?_
           refine lw_v (.int .u64 ((qb * Y) % 18446744073709551616)) (dv_mul (a := qb) (b := Y) (z := (qb * Y) % 18446744073709551616) (T rfl rfl) (T rfl rfl) (wr_u64 _)) ?_
           refine lw_v (.int .u64 ((((((V * 4294967296) % 18446744073709551616) + (un % 4294967296)) % 18446744073709551616) - ((qb * Y) % 18446744073709551616)) % 18446744073709551616)) (dv_sub (a := (((V * 4294967296) % 18446744073709551616) + (un % 4294967296)) % 18446744073709551616) (b := (qb * Y) % 18446744073709551616) (z := (((((V * 4294967296) % 18446744073709551616) + (un % 4294967296)) % 18446744073709551616) - ((qb * Y) % 18446744073709551616)) % 18446744073709551616) (T rfl rfl) (T rfl rfl) (wr_u64 _)) ?_
           refine lw_v (.int .u64 ((S8 : Int))) (dv_move (T rfl f43)) ?_
           refine lw_v (.int .u64 (((((((V * 4294967296) % 18446744073709551616) + (un % 4294967296)) % 18446744073709551616) - ((qb * Y) % 18446744073709551616)) % 18446744073709551616) / 2 ^ S8)) (dv_shr (a := (((((V * 4294967296) % 18446744073709551616) + (un % 4294967296)) % 18446744073709551616) - ((qb * Y) % 18446744073709551616)) % 18446744073709551616) (b := (S8 : Int)) (z := ((((((V * 4294967296) % 18446744073709551616) + (un % 4294967296)) % 18446744073709551616) - ((qb * Y) % 18446744073709551616)) % 18446744073709551616) / 2 ^ S8) (T rfl rfl) (T rfl rfl) (by omega) (shr_v (K := S8) (by omega) (show _ ≤ 64 by omega))) ?_
           refine lw_v (.int .u64 ((((qa * 4294967296) % 18446744073709551616) + qb) % 18446744073709551616)) (dv_assign (T rfl rfl)) ?_
           refine lw_v (.int .u64 (((((((V * 4294967296) % 18446744073709551616) + (un % 4294967296)) % 18446744073709551616) - ((qb * Y) % 18446744073709551616)) % 18446744073709551616) / 2 ^ S8)) (dv_assign (T rfl rfl)) ?_
           refine lw_nil ?_
           refine rk_ret Try.func147 (v := .tuple #[.int .u64 ((((qa * 4294967296) % 18446744073709551616) + qb) % 18446744073709551616), .int .u64 (((((((V * 4294967296) % 18446744073709551616) + (un % 4294967296)) % 18446744073709551616) - ((qb * Y) % 18446744073709551616)) % 18446744073709551616) / 2 ^ S8)]) (res2 Try.results147 (rv_tmp rfl rfl) (rv_tmp rfl rfl)) ⟨_, rfl, ?_⟩
           have hR : (((((V * 4294967296) % 18446744073709551616) + (un % 4294967296)) % 18446744073709551616) - ((qb * Y) % 18446744073709551616)) % 18446744073709551616 = V * 4294967296 + un % 4294967296 - qb * Y := by omega
           exact ⟨tu2 (vi (by rw [← ht.1]; omega)) (vi (by rw [hR]; exact ht.2)), E48⟩
         · refine rk_block ?_
           refine rk_loop (fun dm_ fr wl => ∃ (q r : Int), dm_ = q.toNat ∧ fr 2 = .int .u64 Y ∧ fr 6 = .int .u64 0 ∧ fr 7 = .int .u64 0 ∧ fr 8 = .int .u64 ((S8 : Int)) ∧ fr 9 = .int .u64 (Y / 4294967296) ∧ fr 10 = .int .u64 (Y % 4294967296) ∧ fr 14 = .int .u64 (un % 4294967296) ∧ fr 15 = .int .u64 qa ∧ fr 16 = .int .u64 r ∧ fr 17 = .int .u64 V ∧ fr 18 = .int .u64 q ∧ Below w.heap.size w wl ∧ (q * (Y / 4294967296) + r = V) ∧ (0 ≤ q ∧ q ≤ 4294967297) ∧ (0 ≤ r ∧ r < 4294967296) ∧ (V * 4294967296 + un % 4294967296 < (q + 1) * Y)) ((V / (Y / 4294967296)).toNat) ⟨V / (Y / 4294967296), V - ((V / (Y / 4294967296)) * (Y / 4294967296)), rfl, f23, f24, f25, f26, f27, f28, f31, f32, rfl, (vi ((hVe).trans ha34.symm)), rfl, E33, (by omega), ⟨by omega, by omega⟩, ⟨by omega, by omega⟩, hg0.2.2.2.2⟩ ?_
           intro d53 fr52 w49 hI50 ih51
           obtain ⟨q, r, hd66, f54, f55, f56, f57, f58, f59, f60, f61, f62, f63, f64, E65, hq, hq0, hr, hNq⟩ := hI50
           have hql : 4294967296 ≤ q ∨ r * 4294967296 + un % 4294967296 < q * (Y % 4294967296) → 1 ≤ q := fun h => by
            rcases h with h | h
            · omega
            · exact pos_of_mul hq0.1 (by omega) (by omega) h
           refine rk_seq ?_
           refine rk_seq ?_
           refine rk_reg ?_
           refine lw_v (.int .u64 q) (dv_move (T rfl f64)) ?_
           refine lw_v (.bool (decide (4294967296 ≤ q))) (dv_geq (a := q) (b := 4294967296) (T rfl rfl) C) ?_
           refine lw_v (.bool (decide (4294967296 ≤ q))) (dv_move (T rfl rfl)) ?_
           by_cases hb67 : 4294967296 ≤ q
           · refine lw_no (d := 104) rfl rfl (congrArg Value.bool (decide_eq_true hb67)) ?_
             refine lw_no (d := 104) rfl rfl (congrArg Value.bool (decide_eq_true hb67)) ?_
             refine lw_no (d := 104) rfl rfl (congrArg Value.bool (decide_eq_true hb67)) ?_
             refine lw_no (d := 104) rfl rfl (congrArg Value.bool (decide_eq_true hb67)) ?_
             refine lw_no (d := 104) rfl rfl (congrArg Value.bool (decide_eq_true hb67)) ?_
             refine lw_no (d := 104) rfl rfl (congrArg Value.bool (decide_eq_true hb67)) ?_
             refine lw_no (d := 104) rfl rfl (congrArg Value.bool (decide_eq_true hb67)) ?_
             refine lw_no (d := 104) rfl rfl (congrArg Value.bool (decide_eq_true hb67)) ?_
             refine lw_v (.bool true) (dv_pick_t (T rfl (congrArg Value.bool (decide_eq_true hb67))) C) ?_
             refine lw_nil ?_
             refine rk_ct (T rfl rfl) ?_
             refine rk_skip ?_
             refine rk_block ?_
             refine rk_seq ?_
             refine rk_reg ?_
             refine lw_v (.int .u64 q) (dv_move (T rfl f64)) ?_
             refine lw_v (.int .u64 (q - 1)) (dv_sub (a := q) (b := 1) (z := q - 1) (T rfl rfl) C (wn_u64 (by omega) (by omega))) ?_
             refine lw_v (.int .u64 (q - 1)) (dv_assign (T rfl rfl)) ?_
             refine lw_nil ?_
             refine rk_seq ?_
             refine rk_reg ?_
             refine lw_v (.int .u64 r) (dv_move (T rfl f62)) ?_
             refine lw_v (.int .u64 (Y / 4294967296)) (dv_move (T rfl f58)) ?_
             refine lw_v (.int .u64 (r + (Y / 4294967296))) (dv_add (a := r) (b := Y / 4294967296) (z := r + (Y / 4294967296)) (T rfl rfl) (T rfl rfl) (wn_u64 (by omega) (by omega))) ?_
             refine lw_v (.int .u64 (r + (Y / 4294967296))) (dv_assign (T rfl rfl)) ?_
             refine lw_nil ?_
             refine rk_seq ?_
             refine rk_reg ?_
             refine lw_v (.int .u64 (r + (Y / 4294967296))) (dv_move (T rfl rfl)) ?_
             refine lw_v (.bool (decide (4294967296 ≤ (r + (Y / 4294967296))))) (dv_geq (a := r + (Y / 4294967296)) (b := 4294967296) (T rfl rfl) C) ?_
             refine lw_nil ?_
             by_cases hb68 : 4294967296 ≤ (r + (Y / 4294967296))
             · refine rk_ct (T rfl (congrArg Value.bool (decide_eq_true hb68))) ?_
               refine rk_exit rfl ?_
               exact hj38 _ _ ⟨q - 1, f54, f55, f56, f57, f60, f61, f63, rfl, E65, (half_ok2 (r := r + (Y / 4294967296)) (by rw [Int.sub_mul, Int.one_mul]; omega) (by omega) (by omega) (by omega) (by omega)), (half_less hq (by omega) hVr.2 (by omega) (by omega)), (by omega)⟩
             · refine rk_cf (T rfl (congrArg Value.bool (decide_eq_false hb68))) ?_
               refine rk_skip ?_
               refine rk_inBlock ?_
               exact ih51 ((q - 1).toNat) _ _ (by rw [hd66]; omega) ⟨q - 1, r + (Y / 4294967296), rfl, f54, f55, f56, f57, f58, f59, f60, f61, rfl, f63, rfl, E65, (by rw [Int.sub_mul, Int.one_mul]; omega), ⟨by omega, by omega⟩, ⟨by omega, by omega⟩, (half_less hq (by omega) hVr.2 (by omega) (by omega))⟩
           · refine lw_vy (.int .u64 q) (d := 104) rfl rfl (congrArg Value.bool (decide_eq_false hb67)) (dv_move (T rfl f64)) ?_
             refine lw_vy (.int .u64 (Y % 4294967296)) (d := 104) rfl rfl (congrArg Value.bool (decide_eq_false hb67)) (dv_move (T rfl f59)) ?_
             have hm69 := mul_pos_bd (A := 4294967295) (show 0 ≤ q by omega) (by omega) (show 0 ≤ (Y % 4294967296) by omega) (by omega)
             refine lw_vy (.int .u64 (q * (Y % 4294967296))) (d := 104) rfl rfl (congrArg Value.bool (decide_eq_false hb67)) (dv_mul (a := q) (b := Y % 4294967296) (z := q * (Y % 4294967296)) (T rfl rfl) (T rfl rfl) (wn_u64 (by omega) (by omega))) ?_
             refine lw_vy (.int .u64 r) (d := 104) rfl rfl (congrArg Value.bool (decide_eq_false hb67)) (dv_move (T rfl f62)) ?_
             refine lw_vy (.int .u64 (4294967296 * r)) (d := 104) rfl rfl (congrArg Value.bool (decide_eq_false hb67)) (dv_mul (a := 4294967296) (b := r) (z := 4294967296 * r) C (T rfl rfl) (wn_u64 (by omega) (by omega))) ?_
             refine lw_vy (.int .u64 (un % 4294967296)) (d := 104) rfl rfl (congrArg Value.bool (decide_eq_false hb67)) (dv_move (T rfl f60)) ?_
             refine lw_vy (.int .u64 ((4294967296 * r) + (un % 4294967296))) (d := 104) rfl rfl (congrArg Value.bool (decide_eq_false hb67)) (dv_add (a := 4294967296 * r) (b := un % 4294967296) (z := (4294967296 * r) + (un % 4294967296)) (T rfl rfl) (T rfl rfl) (wn_u64 (by omega) (by omega))) ?_
             refine lw_vy (.bool (decide (((4294967296 * r) + (un % 4294967296)) < (q * (Y % 4294967296))))) (d := 104) rfl rfl (congrArg Value.bool (decide_eq_false hb67)) (dv_gtr (a := q * (Y % 4294967296)) (b := (4294967296 * r) + (un % 4294967296)) (T rfl rfl) (T rfl rfl)) ?_
             refine lw_v (.bool (decide (((4294967296 * r) + (un % 4294967296)) < (q * (Y % 4294967296))))) (dv_pick_f (T rfl (congrArg Value.bool (decide_eq_false hb67))) (T rfl rfl)) ?_
             refine lw_nil ?_
             by_cases hb70 : ((4294967296 * r) + (un % 4294967296)) < (q * (Y % 4294967296))
             · refine rk_ct (T rfl (congrArg Value.bool (decide_eq_true hb70))) ?_
               refine rk_skip ?_
               refine rk_block ?_
               refine rk_seq ?_
               refine rk_reg ?_
               refine lw_v (.int .u64 q) (dv_move (T rfl f64)) ?_
               refine lw_v (.int .u64 (q - 1)) (dv_sub (a := q) (b := 1) (z := q - 1) (T rfl rfl) C (wn_u64 (by omega) (by omega))) ?_
               refine lw_v (.int .u64 (q - 1)) (dv_assign (T rfl rfl)) ?_
               refine lw_nil ?_
               refine rk_seq ?_
               refine rk_reg ?_
               refine lw_v (.int .u64 r) (dv_move (T rfl f62)) ?_
               refine lw_v (.int .u64 (Y / 4294967296)) (dv_move (T rfl f58)) ?_
               refine lw_v (.int .u64 (r + (Y / 4294967296))) (dv_add (a := r) (b := Y / 4294967296) (z := r + (Y / 4294967296)) (T rfl rfl) (T rfl rfl) (wn_u64 (by omega) (by omega))) ?_
               refine lw_v (.int .u64 (r + (Y / 4294967296))) (dv_assign (T rfl rfl)) ?_
               refine lw_nil ?_
               refine rk_seq ?_
               refine rk_reg ?_
               refine lw_v (.int .u64 (r + (Y / 4294967296))) (dv_move (T rfl rfl)) ?_
               refine lw_v (.bool (decide (4294967296 ≤ (r + (Y / 4294967296))))) (dv_geq (a := r + (Y / 4294967296)) (b := 4294967296) (T rfl rfl) C) ?_
               refine lw_nil ?_
               by_cases hb71 : 4294967296 ≤ (r + (Y / 4294967296))
               · refine rk_ct (T rfl (congrArg Value.bool (decide_eq_true hb71))) ?_
                 refine rk_exit rfl ?_
                 exact hj38 _ _ ⟨q - 1, f54, f55, f56, f57, f60, f61, f63, rfl, E65, (half_ok2 (r := r + (Y / 4294967296)) (by rw [Int.sub_mul, Int.one_mul]; omega) (by omega) (by omega) (by omega) (by omega)), (half_less hq (by omega) hVr.2 (by omega) (by omega)), (by omega)⟩
               · refine rk_cf (T rfl (congrArg Value.bool (decide_eq_false hb71))) ?_
                 refine rk_skip ?_
                 refine rk_inBlock ?_
                 exact ih51 ((q - 1).toNat) _ _ (by rw [hd66]; omega) ⟨q - 1, r + (Y / 4294967296), rfl, f54, f55, f56, f57, f58, f59, f60, f61, rfl, f63, rfl, E65, (by rw [Int.sub_mul, Int.one_mul]; omega), ⟨by omega, by omega⟩, ⟨by omega, by omega⟩, (half_less hq (by omega) hVr.2 (by omega) (by omega))⟩
             · refine rk_cf (T rfl (congrArg Value.bool (decide_eq_false hb70))) ?_
               refine rk_exit rfl ?_
               exact hj38 _ _ ⟨q, f54, f55, f56, f57, f60, f61, f63, f64, E65, (half_ok hq (by omega)), hNq, hq0.1⟩
       · refine rk_block ?_
         refine rk_loop (fun dm_ fr wl => ∃ (q r : Int), dm_ = q.toNat ∧ fr 2 = .int .u64 Y ∧ fr 6 = .int .u64 0 ∧ fr 7 = .int .u64 0 ∧ fr 8 = .int .u64 ((S8 : Int)) ∧ fr 9 = .int .u64 (Y / 4294967296) ∧ fr 10 = .int .u64 (Y % 4294967296) ∧ fr 11 = .int .u64 Uu ∧ fr 13 = .int .u64 (un / 4294967296) ∧ fr 14 = .int .u64 (un % 4294967296) ∧ fr 15 = .int .u64 q ∧ fr 16 = .int .u64 r ∧ Below w.heap.size w wl ∧ (q * (Y / 4294967296) + r = Uu) ∧ (0 ≤ q ∧ q ≤ 4294967297) ∧ (0 ≤ r ∧ r < 4294967296) ∧ (Uu * 4294967296 + un / 4294967296 < (q + 1) * Y)) ((Uu / (Y / 4294967296)).toNat) ⟨Uu / (Y / 4294967296), Uu - ((Uu / (Y / 4294967296)) * (Y / 4294967296)), rfl, (vi (ha15.symm)), rfl, rfl, rfl, rfl, rfl, (vi (ha16.symm)), rfl, rfl, rfl, rfl, E14, (by omega), ⟨by omega, by omega⟩, ⟨by omega, by omega⟩, hg.2.2.2.2⟩ ?_
         intro d76 fr75 w72 hI73 ih74
         obtain ⟨q, r, hd89, f77, f78, f79, f80, f81, f82, f83, f84, f85, f86, f87, E88, hq, hq0, hr, hNq⟩ := hI73
         have hql : 4294967296 ≤ q ∨ r * 4294967296 + un / 4294967296 < q * (Y % 4294967296) → 1 ≤ q := fun h => by
          rcases h with h | h
          · omega
          · exact pos_of_mul hq0.1 (by omega) (by omega) h
         refine rk_seq ?_
         refine rk_seq ?_
         refine rk_reg ?_
         refine lw_v (.int .u64 q) (dv_move (T rfl f86)) ?_
         refine lw_v (.bool (decide (4294967296 ≤ q))) (dv_geq (a := q) (b := 4294967296) (T rfl rfl) C) ?_
         refine lw_v (.bool (decide (4294967296 ≤ q))) (dv_move (T rfl rfl)) ?_
         by_cases hb90 : 4294967296 ≤ q
         · refine lw_no (d := 69) rfl rfl (congrArg Value.bool (decide_eq_true hb90)) ?_
           refine lw_no (d := 69) rfl rfl (congrArg Value.bool (decide_eq_true hb90)) ?_
           refine lw_no (d := 69) rfl rfl (congrArg Value.bool (decide_eq_true hb90)) ?_
           refine lw_no (d := 69) rfl rfl (congrArg Value.bool (decide_eq_true hb90)) ?_
           refine lw_no (d := 69) rfl rfl (congrArg Value.bool (decide_eq_true hb90)) ?_
           refine lw_no (d := 69) rfl rfl (congrArg Value.bool (decide_eq_true hb90)) ?_
           refine lw_no (d := 69) rfl rfl (congrArg Value.bool (decide_eq_true hb90)) ?_
           refine lw_no (d := 69) rfl rfl (congrArg Value.bool (decide_eq_true hb90)) ?_
           refine lw_v (.bool true) (dv_pick_t (T rfl (congrArg Value.bool (decide_eq_true hb90))) C) ?_
           refine lw_nil ?_
           refine rk_ct (T rfl rfl) ?_
           refine rk_skip ?_
           refine rk_block ?_
           refine rk_seq ?_
           refine rk_reg ?_
           refine lw_v (.int .u64 q) (dv_move (T rfl f86)) ?_
           refine lw_v (.int .u64 (q - 1)) (dv_sub (a := q) (b := 1) (z := q - 1) (T rfl rfl) C (wn_u64 (by omega) (by omega))) ?_
           refine lw_v (.int .u64 (q - 1)) (dv_assign (T rfl rfl)) ?_
           refine lw_nil ?_
           refine rk_seq ?_
           refine rk_reg ?_
           refine lw_v (.int .u64 r) (dv_move (T rfl f87)) ?_
           refine lw_v (.int .u64 (Y / 4294967296)) (dv_move (T rfl f81)) ?_
           refine lw_v (.int .u64 (r + (Y / 4294967296))) (dv_add (a := r) (b := Y / 4294967296) (z := r + (Y / 4294967296)) (T rfl rfl) (T rfl rfl) (wn_u64 (by omega) (by omega))) ?_
           refine lw_v (.int .u64 (r + (Y / 4294967296))) (dv_assign (T rfl rfl)) ?_
           refine lw_nil ?_
           refine rk_seq ?_
           refine rk_reg ?_
           refine lw_v (.int .u64 (r + (Y / 4294967296))) (dv_move (T rfl rfl)) ?_
           refine lw_v (.bool (decide (4294967296 ≤ (r + (Y / 4294967296))))) (dv_geq (a := r + (Y / 4294967296)) (b := 4294967296) (T rfl rfl) C) ?_
           refine lw_nil ?_
           by_cases hb91 : 4294967296 ≤ (r + (Y / 4294967296))
           · refine rk_ct (T rfl (congrArg Value.bool (decide_eq_true hb91))) ?_
             refine rk_exit rfl ?_
             exact hj21 _ _ ⟨q - 1, f77, f78, f79, f80, f81, f82, f83, f84, f85, rfl, E88, (half_ok2 (r := r + (Y / 4294967296)) (by rw [Int.sub_mul, Int.one_mul]; omega) (by omega) (by omega) (by omega) (by omega)), (half_less hq (by omega) hUr.2 (by omega) (by omega)), (by omega)⟩
           · refine rk_cf (T rfl (congrArg Value.bool (decide_eq_false hb91))) ?_
             refine rk_skip ?_
             refine rk_inBlock ?_
             exact ih74 ((q - 1).toNat) _ _ (by rw [hd89]; omega) ⟨q - 1, r + (Y / 4294967296), rfl, f77, f78, f79, f80, f81, f82, f83, f84, f85, rfl, rfl, E88, (by rw [Int.sub_mul, Int.one_mul]; omega), ⟨by omega, by omega⟩, ⟨by omega, by omega⟩, (half_less hq (by omega) hUr.2 (by omega) (by omega))⟩
         · refine lw_vy (.int .u64 q) (d := 69) rfl rfl (congrArg Value.bool (decide_eq_false hb90)) (dv_move (T rfl f86)) ?_
           refine lw_vy (.int .u64 (Y % 4294967296)) (d := 69) rfl rfl (congrArg Value.bool (decide_eq_false hb90)) (dv_move (T rfl f82)) ?_
           have hm92 := mul_pos_bd (A := 4294967295) (show 0 ≤ q by omega) (by omega) (show 0 ≤ (Y % 4294967296) by omega) (by omega)
           refine lw_vy (.int .u64 (q * (Y % 4294967296))) (d := 69) rfl rfl (congrArg Value.bool (decide_eq_false hb90)) (dv_mul (a := q) (b := Y % 4294967296) (z := q * (Y % 4294967296)) (T rfl rfl) (T rfl rfl) (wn_u64 (by omega) (by omega))) ?_
           refine lw_vy (.int .u64 r) (d := 69) rfl rfl (congrArg Value.bool (decide_eq_false hb90)) (dv_move (T rfl f87)) ?_
           refine lw_vy (.int .u64 (4294967296 * r)) (d := 69) rfl rfl (congrArg Value.bool (decide_eq_false hb90)) (dv_mul (a := 4294967296) (b := r) (z := 4294967296 * r) C (T rfl rfl) (wn_u64 (by omega) (by omega))) ?_
           refine lw_vy (.int .u64 (un / 4294967296)) (d := 69) rfl rfl (congrArg Value.bool (decide_eq_false hb90)) (dv_move (T rfl f84)) ?_
           refine lw_vy (.int .u64 ((4294967296 * r) + (un / 4294967296))) (d := 69) rfl rfl (congrArg Value.bool (decide_eq_false hb90)) (dv_add (a := 4294967296 * r) (b := un / 4294967296) (z := (4294967296 * r) + (un / 4294967296)) (T rfl rfl) (T rfl rfl) (wn_u64 (by omega) (by omega))) ?_
           refine lw_vy (.bool (decide (((4294967296 * r) + (un / 4294967296)) < (q * (Y % 4294967296))))) (d := 69) rfl rfl (congrArg Value.bool (decide_eq_false hb90)) (dv_gtr (a := q * (Y % 4294967296)) (b := (4294967296 * r) + (un / 4294967296)) (T rfl rfl) (T rfl rfl)) ?_
           refine lw_v (.bool (decide (((4294967296 * r) + (un / 4294967296)) < (q * (Y % 4294967296))))) (dv_pick_f (T rfl (congrArg Value.bool (decide_eq_false hb90))) (T rfl rfl)) ?_
           refine lw_nil ?_
           by_cases hb93 : ((4294967296 * r) + (un / 4294967296)) < (q * (Y % 4294967296))
           · refine rk_ct (T rfl (congrArg Value.bool (decide_eq_true hb93))) ?_
             refine rk_skip ?_
             refine rk_block ?_
             refine rk_seq ?_
             refine rk_reg ?_
             refine lw_v (.int .u64 q) (dv_move (T rfl f86)) ?_
             refine lw_v (.int .u64 (q - 1)) (dv_sub (a := q) (b := 1) (z := q - 1) (T rfl rfl) C (wn_u64 (by omega) (by omega))) ?_
             refine lw_v (.int .u64 (q - 1)) (dv_assign (T rfl rfl)) ?_
             refine lw_nil ?_
             refine rk_seq ?_
             refine rk_reg ?_
             refine lw_v (.int .u64 r) (dv_move (T rfl f87)) ?_
             refine lw_v (.int .u64 (Y / 4294967296)) (dv_move (T rfl f81)) ?_
             refine lw_v (.int .u64 (r + (Y / 4294967296))) (dv_add (a := r) (b := Y / 4294967296) (z := r + (Y / 4294967296)) (T rfl rfl) (T rfl rfl) (wn_u64 (by omega) (by omega))) ?_
             refine lw_v (.int .u64 (r + (Y / 4294967296))) (dv_assign (T rfl rfl)) ?_
             refine lw_nil ?_
             refine rk_seq ?_
             refine rk_reg ?_
             refine lw_v (.int .u64 (r + (Y / 4294967296))) (dv_move (T rfl rfl)) ?_
             refine lw_v (.bool (decide (4294967296 ≤ (r + (Y / 4294967296))))) (dv_geq (a := r + (Y / 4294967296)) (b := 4294967296) (T rfl rfl) C) ?_
             refine lw_nil ?_
             by_cases hb94 : 4294967296 ≤ (r + (Y / 4294967296))
             · refine rk_ct (T rfl (congrArg Value.bool (decide_eq_true hb94))) ?_
               refine rk_exit rfl ?_
               exact hj21 _ _ ⟨q - 1, f77, f78, f79, f80, f81, f82, f83, f84, f85, rfl, E88, (half_ok2 (r := r + (Y / 4294967296)) (by rw [Int.sub_mul, Int.one_mul]; omega) (by omega) (by omega) (by omega) (by omega)), (half_less hq (by omega) hUr.2 (by omega) (by omega)), (by omega)⟩
             · refine rk_cf (T rfl (congrArg Value.bool (decide_eq_false hb94))) ?_
               refine rk_skip ?_
               refine rk_inBlock ?_
               exact ih74 ((q - 1).toNat) _ _ (by rw [hd89]; omega) ⟨q - 1, r + (Y / 4294967296), rfl, f77, f78, f79, f80, f81, f82, f83, f84, f85, rfl, rfl, E88, (by rw [Int.sub_mul, Int.one_mul]; omega), ⟨by omega, by omega⟩, ⟨by omega, by omega⟩, (half_less hq (by omega) hUr.2 (by omega) (by omega))⟩
           · refine rk_cf (T rfl (congrArg Value.bool (decide_eq_false hb93))) ?_
             refine rk_exit rfl ?_
             exact hj21 _ _ ⟨q, f77, f78, f79, f80, f81, f82, f83, f84, f85, f86, E88, (half_ok hq (by omega)), hNq, hq0.1⟩
theorem div64_q {w : World} {hi lo y : Int} (hhi : 0 ≤ hi) (hlt : hi < y) (hyl : y < 18446744073709551616) (hlo : 0 ≤ lo ∧ lo < 18446744073709551616) : Ct Try.prog 147 [.int .u64 hi, .int .u64 lo, .int .u64 y] w fun v w1 =>
 ∃ q r : Int, v = .tuple #[.int .u64 q, .int .u64 r] ∧ Ext w w1 ∧ q * y + r = hi * 18446744073709551616 + lo ∧ (0 ≤ r ∧ r < y) ∧ (0 ≤ q ∧ q < 18446744073709551616) ∧ (q = (hi * 18446744073709551616 + lo) / y ∧ r = (hi * 18446744073709551616 + lo) % y) :=
 (div64_ok hhi hlt hyl hlo).mono fun v w1 ⟨h1, h2⟩ => by
  have e := Int.mul_ediv_add_emod (hi * 18446744073709551616 + lo) y
  have r0 := Int.emod_nonneg (hi * 18446744073709551616 + lo) (show y ≠ 0 by omega)
  have r1 := Int.emod_lt_of_pos (hi * 18446744073709551616 + lo) (show 0 < y by omega)
  have q0 : 0 ≤ (hi * 18446744073709551616 + lo) / y := Int.ediv_nonneg (by omega) (by omega)
  have q1 : (hi * 18446744073709551616 + lo) / y < 18446744073709551616 := by
   refine Int.ediv_lt_of_lt_mul (by omega) ?_
   have : (hi + 1) * 18446744073709551616 ≤ y * 18446744073709551616 := Int.mul_le_mul_of_nonneg_right (by omega) (by decide)
   omega
  exact ⟨_, _, h1, h2, by rw [Int.mul_comm _ y]; exact e, ⟨r0, r1⟩, ⟨q0, q1⟩, rfl, rfl⟩
end Go.Proofs.Ytmbpomcbdopgnaa.W
set_option linter.unusedVariables false
set_option linter.unusedSimpArgs false
namespace Go.Proofs.Ytmbpomcbdopgnaa.W
open Go Go.RowKit Go.Proofs.Ytmbpomcbdopgnaa.Fw
attribute [local irreducible] RunK LW AW DV OE Ct
set_option maxHeartbeats 1000000 in
theorem shifted_ok {w : World} {A : Option Addr} {c S : Nat} {xs : List Int} (hx : Wd w 36 .u64 A xs) (hS : S ≤ 63) (ox : okW (2 ^ 64) xs) (lx : xs.length ≤ 500000) : Ct Try.prog 148 [.slice A (xs.length) c, .int .i64 ((S : Int))] w fun v w1 => ∃ b L, v = .slice (some ⟨b, 0, none⟩) (xs.length + 1) (xs.length + 1) ∧ Ext w w1 ∧ w1.heap[b]? = some (.cells (L.map (Value.int .u64)).toArray 36) ∧ w.heap.size ≤ b ∧ L.length = xs.length + 1 ∧ okW (2 ^ 64) L ∧ valB (2 ^ 64) L = 2 ^ S * valB (2 ^ 64) xs := by
 refine ct_run (n := 40) Try.func148 rfl Try.ntmps148 rfl ?_
 have E0 : Below w.heap.size w w := Below.refl _ _
 refine rk_seq ?_
 refine rk_reg ?_
 refine lw_v (.slice none 0 0) (dv_assign C) ?_
 refine lw_nil ?_
 refine rk_seq ?_
 refine rk_reg ?_
 refine lw_v (.slice A (xs.length) c) (dv_move (T rfl rfl)) ?_
 refine lw_v (.int .i64 ((xs.length : Int))) (dv_len (ad := A) (l := xs.length) (c := c) us105 (T rfl rfl)) ?_
 refine lw_v (.int .i64 (((xs.length : Int)) + 1)) (dv_add (a := (xs.length : Int)) (b := 1) (z := ((xs.length : Int)) + 1) (T rfl rfl) C (wr_i64 (by omega) (by omega))) ?_
 refine lw_e (oe_makeW (l := ((xs.length) + 1)) (j := ((xs.length : Int)) + 1) us105 in36 (T rfl rfl) (T rfl rfl) (by omega) (by first | omega | (simp; done) | (simp; omega)) (by first | omega | (simp; done) | (simp; omega)) ?_)
 intro b1 w2 n3
 have N4 : w.heap.size ≤ b1 := n3.eq ▸ E0.size
 have E5 := below_ext E0 E0.size n3.ext
 refine lw_v (.slice (some ⟨b1, 0, none⟩) (((xs.length) + 1)) (((xs.length) + 1))) (dv_assign (T rfl rfl)) ?_
 refine lw_nil ?_
 refine rk_seq ?_
 refine rk_seq ?_
 refine rk_reg ?_
 refine lw_v (.slice A (xs.length) c) (dv_move (T rfl rfl)) ?_
 refine lw_v (.int .i64 ((xs.length : Int))) (dv_len (ad := A) (l := xs.length) (c := c) us105 (T rfl rfl)) ?_
 refine lw_v (.int .i64 0) (dv_move C) ?_
 refine lw_nil ?_
 refine rk_block ?_
 refine rk_loop (fun dm_ fr wl => ∃ (i : Nat) (L : List Int), dm_ = xs.length - i ∧ fr 1 = .int .i64 ((S : Int)) ∧ fr 4 = .slice none 0 0 ∧ fr 5 = .slice (some ⟨b1, 0, none⟩) (((xs.length) + 1)) (((xs.length) + 1)) ∧ fr 12 = .slice A (xs.length) c ∧ fr 13 = .int .i64 ((xs.length : Int)) ∧ fr 14 = .int .i64 ((i : Int)) ∧ Below w.heap.size w wl ∧ wl.heap[b1]? = some (.cells (L.map (Value.int .u64)).toArray 36) ∧ (i ≤ xs.length) ∧ (L.length = xs.length + 1) ∧ (okW (2 ^ 64) L) ∧ (valB (2 ^ 64) L = 2 ^ S * valB (2 ^ 64) (xs.take i)) ∧ (∀ q, i < q → L.getD q 0 = 0) ∧ (L.getD i 0 < 2 ^ S)) (xs.length - 0) ⟨0, (List.replicate (((xs.length) + 1)) (0 : Int)), rfl, rfl, rfl, rfl, rfl, rfl, (vi (by omega)), E5, n3.blk, (Nat.zero_le _), (by simp), (okW.replicate (by decide) _), (by rw [valB_zeros, List.take_zero]; simp [valB]), (fun q _ => rep_zero _ q), (by rw [rep_zero]; exact two_pos S)⟩ ?_
 intro d10 fr9 w6 hI7 ih8
 obtain ⟨i, L, hd19, f11, f12, f13, f14, f15, f16, E17, H18, hi, hl, hok, hv, hz, hb⟩ := hI7
 have bx := okW.getD ox (by decide) i
 have bL := okW.getD hok (by decide) i
 have bp : (2 : Int) ^ S ≤ 2 ^ 63 := pow_le_of (by decide) hS
 have bm := shl_mod (x := xs.getD i 0) (S := S) (by omega)
 have e63 : (2 : Int) ^ 63 = 9223372036854775808 := by decide
 refine rk_seq ?_
 refine rk_reg ?_
 refine lw_v (.bool (decide (((i : Int)) < ((xs.length : Int))))) (dv_lss (a := (i : Int)) (b := (xs.length : Int)) (T rfl f16) (T rfl f15)) ?_
 refine lw_nil ?_
 refine rk_seq ?_
 by_cases hb20 : ((i : Int)) < ((xs.length : Int))
 · refine rk_ct (T rfl (congrArg Value.bool (decide_eq_true hb20))) ?_
   refine rk_skip ?_
   refine rk_seq ?_
   refine rk_block ?_
   refine rk_seq ?_
   refine rk_reg ?_
   refine lw_v (.int .i64 ((i : Int))) (dv_move (T rfl f16)) ?_
   have h21 := (hx.ext E17)
   obtain ⟨g22, o23, rfl⟩ := Wd.at h21 (by first | omega | (simp; done) | (simp; omega))
   refine lw_v (.pointer (some ⟨g22, o23 + i, none⟩)) (dv_indexW (g := g22) (o := o23) (l := xs.length) (c := c) (i := i) (j := (i : Int)) us105 sz36 (T rfl f14) (T rfl f16) (by omega) (by first | omega | (simp; done) | (simp; omega))) ?_
   refine lw_v (.int .u64 (xs.getD i 0)) (dv_load agt36 (T rfl rfl) (Wd.cell h21 (by first | omega | (simp; done) | (simp; omega)))) ?_
   refine lw_v (.int .i64 ((i : Int))) (dv_assign (T rfl rfl)) ?_
   refine lw_v (.int .u64 (xs.getD i 0)) (dv_assign (T rfl rfl)) ?_
   refine lw_nil ?_
   refine rk_seq ?_
   refine rk_any (fun w => w.heap[b1]? = some (.cells (L.map (Value.int .u64)).toArray 36)) [9] mo ?_
   intro w24 d25
   have E26 := below_ext E17 E17.size d25.ext
   have H27 := (d25.ext.blk H18)
   refine aw_pure 0 (.slice (some ⟨b1, 0, none⟩) (((xs.length) + 1)) (((xs.length) + 1))) rfl (by kernel_rfl) .none H27 (fun _ => dv_move (T rfl f13)) ?_
   refine aw_pure 1 (.int .i64 ((i : Int))) rfl (by kernel_rfl) .none H27 (fun _ => dv_move (T rfl rfl)) ?_
   refine aw_pure 2 (.pointer (some ⟨b1, i, none⟩)) rfl (by kernel_rfl) .none H27 (fun _ => dv_indexO (g := b1) (l := ((xs.length) + 1)) (c := ((xs.length) + 1)) (i := i) (j := (i : Int)) us105 sz36 (T rfl rfl) (T rfl rfl) (by omega) (by first | omega | (simp; done) | (simp; omega))) ?_
   refine aw_load 3 (.int .u64 (L.getD i 0)) rfl (by kernel_rfl) .none H27 (fun _ s => dv_loadW (L := L) (v := L.getD i 0) agt36 (T rfl rfl) s (by first | omega | (simp; done) | (simp; omega)) rfl) ?_
   refine aw_pure 4 (.int .u64 (xs.getD i 0)) rfl (by kernel_rfl) .none H27 (fun _ => dv_move (T rfl rfl)) ?_
   refine aw_pure 5 (.int .i64 ((S : Int))) rfl (by kernel_rfl) .none H27 (fun _ => dv_move (T rfl f11)) ?_
   refine aw_pure 6 (.int .u64 (((xs.getD i 0) * 2 ^ S) % 18446744073709551616)) rfl (by kernel_rfl) .none H27 (fun _ => dv_shl (a := xs.getD i 0) (b := (S : Int)) (z := ((xs.getD i 0) * 2 ^ S) % 18446744073709551616) (T rfl rfl) (T rfl rfl) (by omega) (shl_w (K := S) (by omega) (show _ ≤ 64 by omega) (wr_u64 _))) ?_
   refine aw_pure 7 (.int .u64 ((L.getD i 0) + (((xs.getD i 0) * 2 ^ S) % 18446744073709551616))) rfl (by kernel_rfl) .none H27 (fun _ => dv_or (a := L.getD i 0) (b := ((xs.getD i 0) * 2 ^ S) % 18446744073709551616) (z := (L.getD i 0) + (((xs.getD i 0) * 2 ^ S) % 18446744073709551616)) (T rfl rfl) (T rfl rfl) ((or_add (k := .u64) (a := L.getD i 0) (b := ((xs.getD i 0) * 2 ^ S) % 18446744073709551616) (i := S) rfl bL.1 hb (by omega) bm (lt64 (by omega)) (lt64 (by omega))).1)) ?_
   refine aw_pure 8 (.pointer (some ⟨b1, i, none⟩)) rfl (by kernel_rfl) .none H27 (fun _ => dv_indexO (g := b1) (l := ((xs.length) + 1)) (c := ((xs.length) + 1)) (i := i) (j := (i : Int)) us105 sz36 (T rfl rfl) (T rfl rfl) (by omega) (by first | omega | (simp; done) | (simp; omega))) ?_
   refine aw_one 9 rfl (by kernel_rfl) .none (oe_storeW (L := L) (i := i) (z := (L.getD i 0) + (((xs.getD i 0) * 2 ^ S) % 18446744073709551616)) sz36 (T rfl rfl) (T rfl rfl) H27 (by first | omega | (simp; done) | (simp; omega)) ?_)
   intro w28 s29 H30
   have E31 := below_st E26 N4 s29
   refine ⟨.inl rfl, ?_⟩
   refine aw_done (by kernel_rfl) ?_
   refine rk_seq ?_
   refine rk_reg ?_
   refine lw_v (.int .i64 ((S : Int))) (dv_move (T rfl f11)) ?_
   refine lw_v (.bool (decide (0 < ((S : Int))))) (dv_gtr (a := (S : Int)) (b := 0) (T rfl rfl) C) ?_
   refine lw_nil ?_
   by_cases hb32 : 0 < ((S : Int))
   · refine rk_ct (T rfl (congrArg Value.bool (decide_eq_true hb32))) ?_
     refine rk_reg ?_
     refine lw_v (.slice (some ⟨b1, 0, none⟩) (((xs.length) + 1)) (((xs.length) + 1))) (dv_move (T rfl f13)) ?_
     refine lw_v (.int .i64 ((i : Int))) (dv_move (T rfl rfl)) ?_
     refine lw_v (.int .i64 (((i : Int)) + 1)) (dv_add (a := (i : Int)) (b := 1) (z := ((i : Int)) + 1) (T rfl rfl) C (wr_i64 (by omega) (by omega))) ?_
     refine lw_v (.int .u64 (xs.getD i 0)) (dv_move (T rfl rfl)) ?_
     refine lw_v (.int .i64 ((S : Int))) (dv_move (T rfl f11)) ?_
     refine lw_v (.int .i64 (64 - ((S : Int)))) (dv_sub (a := 64) (b := (S : Int)) (z := 64 - ((S : Int))) C (T rfl rfl) (wr_i64 (by omega) (by omega))) ?_
     refine lw_v (.int .u64 ((xs.getD i 0) / 2 ^ ((64 - (S))))) (dv_shr (a := xs.getD i 0) (b := 64 - ((S : Int))) (z := (xs.getD i 0) / 2 ^ ((64 - (S)))) (T rfl rfl) (T rfl rfl) (by omega) (shr_v (K := (64 - (S))) (by omega) (show _ ≤ 64 by omega))) ?_
     refine lw_v (.pointer (some ⟨b1, (((i) + 1)), none⟩)) (dv_indexO (g := b1) (l := ((xs.length) + 1)) (c := ((xs.length) + 1)) (i := ((i) + 1)) (j := ((i : Int)) + 1) us105 sz36 (T rfl rfl) (T rfl rfl) (by omega) (by first | omega | (simp; done) | (simp; omega))) ?_
     refine lw_e (oe_storeW (L := (L.set i ((L.getD i 0) + (((xs.getD i 0) * 2 ^ S) % 18446744073709551616)))) (i := ((i) + 1)) (z := (xs.getD i 0) / 2 ^ ((64 - (S)))) sz36 (T rfl rfl) (T rfl rfl) H30 (by first | omega | (simp; done) | (simp; omega)) ?_)
     intro w33 s34 H35
     have E36 := below_st E31 N4 s34
     refine lw_nil ?_
     refine rk_inBlock ?_
     refine rk_reg ?_
     refine lw_v (.int .i64 (((i : Int)) + 1)) (dv_add (a := (i : Int)) (b := 1) (z := ((i : Int)) + 1) (T rfl f16) C (wr_i64 (by omega) (by omega))) ?_
     refine lw_v (.int .i64 (((i : Int)) + 1)) (dv_move (T rfl rfl)) ?_
     refine lw_nil ?_
     exact ih8 (xs.length - ((i + 1))) _ _ (by rw [hd19]; omega) ⟨(i + 1), (((L.set i ((L.getD i 0) + (((xs.getD i 0) * 2 ^ S) % 18446744073709551616)))).set (((i) + 1)) ((xs.getD i 0) / 2 ^ ((64 - (S))))), rfl, f11, f12, f13, f14, f15, (vi (by omega)), E36, H35, (by omega), (shf_T hS (by omega) hl hok hv hz hb rfl bx.1 bx.2 rfl rfl).1, (shf_T hS (by omega) hl hok hv hz hb rfl bx.1 bx.2 rfl rfl).2.1, (shf_T hS (by omega) hl hok hv hz hb rfl bx.1 bx.2 rfl rfl).2.2.1, (shf_T hS (by omega) hl hok hv hz hb rfl bx.1 bx.2 rfl rfl).2.2.2.1, (shf_T hS (by omega) hl hok hv hz hb rfl bx.1 bx.2 rfl rfl).2.2.2.2⟩
   · refine rk_cf (T rfl (congrArg Value.bool (decide_eq_false hb32))) ?_
     refine rk_skip ?_
     refine rk_inBlock ?_
     refine rk_reg ?_
     refine lw_v (.int .i64 (((i : Int)) + 1)) (dv_add (a := (i : Int)) (b := 1) (z := ((i : Int)) + 1) (T rfl f16) C (wr_i64 (by omega) (by omega))) ?_
     refine lw_v (.int .i64 (((i : Int)) + 1)) (dv_move (T rfl rfl)) ?_
     refine lw_nil ?_
     exact ih8 (xs.length - ((i + 1))) _ _ (by rw [hd19]; omega) ⟨(i + 1), (L.set i ((L.getD i 0) + (((xs.getD i 0) * 2 ^ S) % 18446744073709551616))), rfl, f11, f12, f13, f14, f15, (vi (by omega)), E31, H30, (by omega), (shf_F (by omega) (by omega) hl hok hv hz hb rfl bx.1 bx.2 rfl).1, (shf_F (by omega) (by omega) hl hok hv hz hb rfl bx.1 bx.2 rfl).2.1, (shf_F (by omega) (by omega) hl hok hv hz hb rfl bx.1 bx.2 rfl).2.2.1, (shf_F (by omega) (by omega) hl hok hv hz hb rfl bx.1 bx.2 rfl).2.2.2.1, (shf_F (by omega) (by omega) hl hok hv hz hb rfl bx.1 bx.2 rfl).2.2.2.2⟩
 · refine rk_cf (T rfl (congrArg Value.bool (decide_eq_false hb20))) ?_
   refine rk_exit rfl ?_
   refine rk_seq ?_
   refine rk_reg ?_
   refine lw_v (.slice (some ⟨b1, 0, none⟩) (((xs.length) + 1)) (((xs.length) + 1))) (dv_move (T rfl f13)) ?_
   refine lw_v (.slice (some ⟨b1, 0, none⟩) (((xs.length) + 1)) (((xs.length) + 1))) (dv_assign (T rfl rfl)) ?_
   refine lw_nil ?_
   refine rk_ret Try.func148 (v := .slice (some ⟨b1, 0, none⟩) (((xs.length) + 1)) (((xs.length) + 1))) (res1 Try.results148 (rv_tmp rfl rfl)) ⟨_, rfl, ?_⟩
   exact ⟨_, _, rfl, E17, H18, N4, hl, hok, by rw [hv, List.take_of_length_le (by omega)]⟩
theorem shifted_okl {w : World} {A : Option Addr} {l c S : Nat} {xs : List Int} (hx : Wd w 36 .u64 A xs) (hS : S ≤ 63) (ox : okW (2 ^ 64) xs) (lx : xs.length ≤ 500000) (hl : xs.length = l) : Ct Try.prog 148 [.slice A l c, .int .i64 (S : Int)] w fun v w1 =>
 ∃ b L, v = .slice (some ⟨b, 0, none⟩) (xs.length + 1) (xs.length + 1) ∧ Ext w w1 ∧ w1.heap[b]? = some (.cells (L.map (Value.int .u64)).toArray 36) ∧ w.heap.size ≤ b ∧ L.length = xs.length + 1 ∧ okW (2 ^ 64) L ∧ valB (2 ^ 64) L = 2 ^ S * valB (2 ^ 64) xs := by
 subst hl
 exact shifted_ok hx hS ox lx
end Go.Proofs.Ytmbpomcbdopgnaa.W
set_option linter.unusedVariables false
set_option linter.unusedSimpArgs false
namespace Go.Proofs.Ytmbpomcbdopgnaa.W
open Go Go.RowKit Go.Proofs.Ytmbpomcbdopgnaa.Fw
attribute [local irreducible] RunK LW AW DV OE Ct
theorem co147 : callOk Try.prog 147 = true := by kernel_rfl
theorem co148 : callOk Try.prog 148 = true := by kernel_rfl
set_option maxHeartbeats 4000000 in
theorem divWords_ok {w : World} {Aa Ab : Option Addr} {la ca lb cb : Nat} {x y : Int} (ha : Wc 64 36 .u64 w Aa la ca x) (hb : Wc 64 36 .u64 w Ab lb cb y) (hy : 0 < y) (hla : la ≤ 400000) (hlb : lb ≤ 400000) : Ct Try.prog 135 [.slice Aa la ca, .slice Ab lb cb] w fun v w1 => ∃ A1 n1 c1 A2 n2 c2, v = .tuple #[.slice A1 n1 c1, .slice A2 n2 c2] ∧ Ext w w1 ∧ Wc 64 36 .u64 w1 A1 n1 c1 (x / y) ∧ Wc 64 36 .u64 w1 A2 n2 c2 (x % y) := by
 refine ct_run (n := 326) Try.func135 rfl Try.ntmps135 rfl ?_
 have E0 : Below w.heap.size w w := Below.refl _ _
 obtain ⟨xs, hxl, hxc, hxw, ox, hxk, hxv⟩ := id ha
 obtain ⟨ys, hyl, hyc, hyw, oy, hyk, hyv⟩ := id hb
 have hlp := hb.pos
 have hx0 := ha.nonneg
 refine rk_seq ?_
 refine rk_reg ?_
 refine lw_v (.slice none 0 0) (dv_assign C) ?_
 refine lw_v (.slice none 0 0) (dv_assign C) ?_
 refine lw_nil ?_
 refine rk_seq ?_
 refine rk_seq ?_
 refine rk_reg ?_
 refine lw_v (.slice Aa la ca) (dv_move (T rfl rfl)) ?_
 refine lw_v (.slice Ab lb cb) (dv_move (T rfl rfl)) ?_
 refine lw_e (oe_callf (vs := [.slice Aa la ca, .slice Ab lb cb]) co119 (ar2 (T rfl rfl) (T rfl rfl)) (cmpWords_wc ha hb (by first | omega | (simp; done) | (simp; omega)) (by first | omega | (simp; done) | (simp; omega))) ?_)
 rintro _ w3 ⟨r1, rfl, e4, hr2⟩
 have E5 := below_ext E0 E0.size e4
 have qhr2 := cmpR.ge hr2
 have phr2 := cmpR.eq hr2
 refine lw_v (.bool (decide (r1 < 0))) (dv_lss (a := r1) (b := 0) (T rfl rfl) C) ?_
 refine lw_nil ?_
 by_cases hb6 : r1 < 0
 · refine rk_ct (T rfl (congrArg Value.bool (decide_eq_true hb6))) ?_
   refine rk_seq ?_
   refine rk_reg ?_
   refine lw_v (.slice Aa la ca) (dv_move (T rfl rfl)) ?_
   refine lw_v (.slice none 0 0) (dv_assign C) ?_
   refine lw_v (.slice Aa la ca) (dv_assign (T rfl rfl)) ?_
   refine lw_nil ?_
   refine rk_ret Try.func135 (v := .tuple #[.slice none 0 0, .slice Aa la ca]) (res2 Try.results135 (rv_tmp rfl rfl) (rv_tmp rfl rfl)) ⟨_, rfl, ?_⟩
   have hq0 := Int.ediv_eq_zero_of_lt (a := x) (b := y) hx0 (by omega)
   have hr0 := Int.emod_eq_of_lt (a := x) (b := y) hx0 (by omega)
   have h7 := (ha.ext e4)
   exact ⟨_, _, _, _, _, _, rfl, E5, Wc.zero.eq hq0.symm, h7.eq hr0.symm⟩
 · refine rk_cf (T rfl (congrArg Value.bool (decide_eq_false hb6))) ?_
   refine rk_skip ?_
   refine rk_seq ?_
   have hle : y ≤ x := by omega
   have hll : lb ≤ la := by have := len_le ox oy hyk (by rw [← hxv, ← hyv]; exact hle); omega
   have hlbp : 0 < lb := hlp.2 hy
   refine rk_reg ?_
   refine lw_v (.slice Ab lb cb) (dv_move (T rfl rfl)) ?_
   refine lw_v (.int .i64 ((lb : Int))) (dv_len (ad := Ab) (l := lb) (c := cb) us105 (T rfl rfl)) ?_
   refine lw_v (.int .i64 ((lb : Int))) (dv_assign (T rfl rfl)) ?_
   refine lw_nil ?_
   refine rk_seq ?_
   refine rk_seq ?_
   refine rk_reg ?_
   refine lw_v (.int .i64 ((lb : Int))) (dv_move (T rfl rfl)) ?_
   refine lw_v (.bool (decide (((lb : Int)) = 1))) (dv_eql (a := (lb : Int)) (b := 1) (T rfl rfl) C) ?_
   refine lw_nil ?_
   by_cases hb8 : ((lb : Int)) = 1
   · refine rk_ct (T rfl (congrArg Value.bool (decide_eq_true hb8))) ?_
     refine rk_seq ?_
     have hy1 : y = ys.getD 0 0 := by rw [hyv, valB_head, List.drop_eq_nil_of_le (by omega)]; simp [valB]
     refine rk_reg ?_
     refine lw_v (.slice Aa la ca) (dv_move (T rfl rfl)) ?_
     refine lw_v (.int .i64 ((la : Int))) (dv_len (ad := Aa) (l := la) (c := ca) us105 (T rfl rfl)) ?_
     refine lw_e (oe_makeW (l := la) (j := (la : Int)) us105 in36 (T rfl rfl) (T rfl rfl) (by omega) (by first | omega | (simp; done) | (simp; omega)) (by first | omega | (simp; done) | (simp; omega)) ?_)
     intro b9 w10 n11
     have N12 : w.heap.size ≤ b9 := n11.eq ▸ E5.size
     have E13 := below_ext E5 E5.size n11.ext
     refine lw_v (.slice (some ⟨b9, 0, none⟩) la la) (dv_assign (T rfl rfl)) ?_
     refine lw_v (.int .u64 0) (dv_assign C) ?_
     refine lw_nil ?_
     refine rk_seq ?_
     refine rk_seq ?_
     refine rk_reg ?_
     refine lw_v (.slice Aa la ca) (dv_move (T rfl rfl)) ?_
     refine lw_v (.int .i64 ((la : Int))) (dv_len (ad := Aa) (l := la) (c := ca) us105 (T rfl rfl)) ?_
     refine lw_v (.int .i64 (((la : Int)) - 1)) (dv_sub (a := (la : Int)) (b := 1) (z := ((la : Int)) - 1) (T rfl rfl) C (wr_i64 (by omega) (by omega))) ?_
     refine lw_v (.int .i64 (((la : Int)) - 1)) (dv_assign (T rfl rfl)) ?_
     refine lw_nil ?_
     refine rk_block ?_
     refine rk_loop (fun dm_ fr wl => ∃ (n : Nat) (L : List Int) (r : Int), dm_ = n ∧ fr 0 = .slice Aa la ca ∧ fr 1 = .slice Ab lb cb ∧ fr 4 = .slice none 0 0 ∧ fr 5 = .slice none 0 0 ∧ fr 6 = .int .i64 ((lb : Int)) ∧ fr 7 = .slice (some ⟨b9, 0, none⟩) la la ∧ fr 8 = .int .u64 r ∧ fr 9 = .int .i64 ((n : Int) - 1) ∧ Below w.heap.size w wl ∧ wl.heap[b9]? = some (.cells (L.map (Value.int .u64)).toArray 36) ∧ (n ≤ la) ∧ (L.length = la) ∧ (okW (2 ^ 64) L) ∧ (0 ≤ r ∧ r < ys.getD 0 0) ∧ (valB (2 ^ 64) (xs.drop n) = ys.getD 0 0 * valB (2 ^ 64) (L.drop n) + r)) (la) ⟨la, (List.replicate la (0 : Int)), 0, rfl, rfl, rfl, rfl, rfl, rfl, rfl, rfl, (vi (by omega)), E13, n11.blk, (Nat.le_refl _), (by simp), (okW.replicate (by decide) _), (by omega), (by rw [List.drop_eq_nil_of_le (by omega), List.drop_eq_nil_of_le (by simp)]; simp [valB])⟩ ?_
     intro d18 fr17 w14 hI15 ih16
     obtain ⟨n, L, r, hd29, f19, f20, f21, f22, f23, f24, f25, f26, E27, H28, hn, hl, hok, hr, hv⟩ := hI15
     have bxs := okW.getD ox (by decide) (n - 1)
     have by0 := okW.getD oy (by decide) 0
     refine rk_seq ?_
     refine rk_seq ?_
     refine rk_reg ?_
     refine lw_v (.int .i64 ((n : Int) - 1)) (dv_move (T rfl f26)) ?_
     refine lw_v (.bool (decide (0 ≤ ((n : Int) - 1)))) (dv_geq (a := (n : Int) - 1) (b := 0) (T rfl rfl) C) ?_
     refine lw_nil ?_
     by_cases hb30 : 0 ≤ ((n : Int) - 1)
     · refine rk_ct (T rfl (congrArg Value.bool (decide_eq_true hb30))) ?_
       refine rk_skip ?_
       refine rk_seq ?_
       refine rk_block ?_
       have h31 := (hxw.ext E27)
       have h32 := (hyw.ext E27)
       refine rk_any (fun w => Wd w 36 .u64 Aa xs ∧ Wd w 36 .u64 Ab ys) [16] mo ?_
       intro w33 d34
       have E35 := below_ext E27 E27.size d34.ext
       have h36 := (h31.ext d34.ext)
       have h37 := (h32.ext d34.ext)
       refine aw_pure 0 (.slice (some ⟨b9, 0, none⟩) la la) rfl (by kernel_rfl) .none ⟨h36, h37⟩ (fun _ => dv_move (T rfl f24)) ?_
       refine aw_pure 1 (.int .i64 ((n : Int) - 1)) rfl (by kernel_rfl) .none ⟨h36, h37⟩ (fun _ => dv_move (T rfl f26)) ?_
       refine aw_pure 2 (.int .u64 r) rfl (by kernel_rfl) .none ⟨h36, h37⟩ (fun _ => dv_move (T rfl f25)) ?_
       refine aw_pure 3 (.slice Aa la ca) rfl (by kernel_rfl) .none ⟨h36, h37⟩ (fun _ => dv_move (T rfl f19)) ?_
       refine aw_pure 4 (.int .i64 ((n : Int) - 1)) rfl (by kernel_rfl) .none ⟨h36, h37⟩ (fun _ => dv_move (T rfl f26)) ?_
       obtain ⟨g38, o39, rfl⟩ := Wd.at h36 (by first | omega | (simp; done) | (simp; omega))
       refine aw_pure 5 (.pointer (some ⟨g38, o39 + (n - 1), none⟩)) rfl (by kernel_rfl) .none ⟨h36, h37⟩ (fun _ => dv_indexW (g := g38) (o := o39) (l := la) (c := ca) (i := (n - 1)) (j := (n : Int) - 1) us105 sz36 (T rfl rfl) (T rfl rfl) (by omega) (by first | omega | (simp; done) | (simp; omega))) ?_
       refine aw_load 6 (.int .u64 (xs.getD ((n - 1)) 0)) rfl (by kernel_rfl) .none ⟨h36, h37⟩ (fun _ s => dv_load agt36 (T rfl rfl) (Wd.cell s.1 (by first | omega | (simp; done) | (simp; omega)))) ?_
       refine aw_pure 7 (.slice Ab lb cb) rfl (by kernel_rfl) .none ⟨h36, h37⟩ (fun _ => dv_move (T rfl f20)) ?_
       obtain ⟨g40, o41, rfl⟩ := Wd.at h37 (by first | omega | (simp; done) | (simp; omega))
       refine aw_pure 8 (.pointer (some ⟨g40, o41 + 0, none⟩)) rfl (by kernel_rfl) .none ⟨h36, h37⟩ (fun _ => dv_indexW (g := g40) (o := o41) (l := lb) (c := cb) (i := 0) (j := 0) us105 sz36 (T rfl rfl) C (by omega) (by first | omega | (simp; done) | (simp; omega))) ?_
       refine aw_load 9 (.int .u64 (ys.getD 0 0)) rfl (by kernel_rfl) .none ⟨h36, h37⟩ (fun _ s => dv_load agt36 (T rfl rfl) (Wd.cell s.2 (by first | omega | (simp; done) | (simp; omega)))) ?_
       refine aw_one 10 rfl (by kernel_rfl) .none (oe_callf (vs := [.int .u64 r, .int .u64 (xs.getD ((n - 1)) 0), .int .u64 (ys.getD 0 0)]) co147 (ar3 (T rfl rfl) (T rfl rfl) (T rfl rfl)) (div64_q (hi := r) (lo := xs.getD ((n - 1)) 0) (y := ys.getD 0 0) (by omega) (by omega) (by omega) (by omega)) ?_)
       rintro _ w45 ⟨qd42, rd43, rfl, e46, hd44⟩
       have E47 := below_ext E35 E35.size e46
       obtain ⟨hd44a, hd44b, hd44c, hd44d⟩ := hd44
       have h48 := (h36.ext e46)
       have h49 := (h37.ext e46)
       refine ⟨.inr ⟨h48, h49⟩, ?_⟩
       refine aw_pure 11 (.tuple #[.int .u64 qd42, .int .u64 rd43]) rfl (by kernel_rfl) .none ⟨h48, h49⟩ (fun _ => dv_move (T rfl rfl)) ?_
       refine aw_pure 12 (.int .u64 qd42) rfl (by kernel_rfl) .none ⟨h48, h49⟩ (fun _ => dv_extract (vs := #[.int .u64 qd42, .int .u64 rd43]) (T rfl rfl) rfl) ?_
       refine aw_pure 13 (.int .u64 rd43) rfl (by kernel_rfl) .none ⟨h48, h49⟩ (fun _ => dv_extract (vs := #[.int .u64 qd42, .int .u64 rd43]) (T rfl rfl) rfl) ?_
       refine aw_pure 14 (.pointer (some ⟨b9, ((n - 1)), none⟩)) rfl (by kernel_rfl) .none ⟨h48, h49⟩ (fun _ => dv_indexO (g := b9) (l := la) (c := la) (i := (n - 1)) (j := (n : Int) - 1) us105 sz36 (T rfl rfl) (T rfl rfl) (by omega) (by first | omega | (simp; done) | (simp; omega))) ?_
       have H50 := (e46.blk (d34.ext.blk H28))
       refine aw_one 15 rfl (by kernel_rfl) .none (oe_storeW (L := L) (i := (n - 1)) (z := qd42) sz36 (T rfl rfl) (T rfl rfl) H50 (by first | omega | (simp; done) | (simp; omega)) ?_)
       intro w51 s52 H53
       have E54 := below_st E47 N12 s52
       have h55 := hxw.ext E54
       have h56 := hyw.ext E54
       refine ⟨.inr ⟨h55, h56⟩, ?_⟩
       refine aw_last 16 (.int .u64 rd43) rfl (by kernel_rfl) .none (fun _ => dv_assign (T rfl rfl)) ?_
       refine aw_done (by kernel_rfl) ?_
       refine rk_inBlock ?_
       refine rk_reg ?_
       refine lw_v (.int .i64 ((n : Int) - 1)) (dv_move (T rfl f26)) ?_
       refine lw_v (.int .i64 (((n : Int) - 1) - 1)) (dv_sub (a := (n : Int) - 1) (b := 1) (z := ((n : Int) - 1) - 1) (T rfl rfl) C (wr_i64 (by omega) (by omega))) ?_
       refine lw_v (.int .i64 (((n : Int) - 1) - 1)) (dv_assign (T rfl rfl)) ?_
       refine lw_nil ?_
       exact ih16 (((n - 1))) _ _ (by rw [hd29]; omega) ⟨(n - 1), (L.set ((n - 1)) qd42), rd43, rfl, f19, f20, f21, f22, f23, f24, rfl, (vi (by omega)), E54, H53, (by omega), (by simp [hl]), (okW.set hok (by omega) (by omega) _), (by omega), (one_step (by omega) (by omega) (by omega) hv rfl hd44a)⟩
     · refine rk_cf (T rfl (congrArg Value.bool (decide_eq_false hb30))) ?_
       refine rk_exit rfl ?_
       refine rk_seq ?_
       refine rk_reg ?_
       refine lw_v (.slice (some ⟨b9, 0, none⟩) la la) (dv_move (T rfl f24)) ?_
       refine lw_e (oe_callf (vs := [.slice (some ⟨b9, 0, none⟩) la la]) co139 (ar1 (T rfl rfl)) (trim_okl (Wd.ownW H28) (by first | omega | (simp; done) | (simp; omega)) (by first | omega | (simp; done) | (simp; omega)) (by first | rfl | first | (simp; done) | (simp; omega) | omega)) ?_)
       rintro _ w57 ⟨rfl, e58⟩
       have E59 := below_ext E27 E27.size e58
       refine lw_v (.int .u64 r) (dv_move (T rfl f25)) ?_
       refine lw_e (oe_buildSlice (pv := [(0, .int .u64 r)]) (init := [.int .u64 0]) (l := [.int .u64 r]) us105 sz36 rfl rfl zc36 (by kernel_rfl) ⟨rfl, (T rfl rfl), trivial⟩ rfl ?_)
       intro b60 w61 n62
       have N63 : w.heap.size ≤ b60 := n62.eq ▸ E59.size
       have H64 := (e58.blk H28)
       have : b9 < b60 := n62.eq ▸ lt_of_blk H64
       have E65 := below_ext E59 E59.size n62.ext
       refine lw_e (oe_callf (vs := [.slice (some ⟨b60, 0, none⟩) 1 1]) co139 (ar1 (T rfl rfl)) (trim_okl (Wd.ownW (xs := [r]) n62.blk) (by first | omega | (simp; done) | (simp; omega)) (by first | omega | (simp; done) | (simp; omega)) (by first | rfl | first | (simp; done) | (simp; omega) | omega)) ?_)
       rintro _ w66 ⟨rfl, e67⟩
       have E68 := below_ext E65 E65.size e67
       have := trimL_len ([r])
       simp only [List.length_cons, List.length_nil] at this
       refine lw_v (.slice (some ⟨b9, 0, none⟩) ((trimL L).length) la) (dv_assign (T rfl rfl)) ?_
       refine lw_v (.slice (some ⟨b60, 0, none⟩) ((trimL ([r])).length) 1) (dv_assign (T rfl rfl)) ?_
       refine lw_nil ?_
       refine rk_ret Try.func135 (v := .tuple #[.slice (some ⟨b9, 0, none⟩) ((trimL L).length) la, .slice (some ⟨b60, 0, none⟩) ((trimL ([r])).length) 1]) (res2 Try.results135 (rv_tmp rfl rfl) (rv_tmp rfl rfl)) ⟨_, rfl, ?_⟩
       have h69 := (((Wd.trim ((Wd.ownW H28).ext e58)).ext n62.ext).ext e67)
       have hd := div_of (x := x) (y := y) (q := valB (2 ^ 64) L) (r := r) (by have h := hv; rw [show n = 0 by omega, List.drop_zero, List.drop_zero, ← hxv, ← hy1] at h; omega) hr.1 (by omega)
       have ht1 := trimL_len L
       have ht2 := trimL_len ([r])
       simp only [List.length_cons, List.length_nil, List.length_take] at ht1 ht2
       exact ⟨_, _, _, _, _, _, rfl, E68, ⟨trimL L, rfl, (by omega), h69, trimL_ok hok, trimL_canon _, (by rw [trimL_val]; exact hd.1.symm)⟩, ⟨trimL ([r]), rfl, (by first | omega | (simp; omega)), (Wd.trim ((Wd.ownW (xs := [r]) n62.blk).ext e67)), trimL_ok (okW.cons hr.1 (by rw [p64]; omega) okW.nil), trimL_canon _, (by rw [trimL_val]; exact (by simp only [valB]; rw [← hd.2]; omega))⟩⟩
   · refine rk_cf (T rfl (congrArg Value.bool (decide_eq_false hb8))) ?_
     refine rk_skip ?_
     refine rk_seq ?_
     have hlb2 : 2 ≤ lb := by omega
     have htop := canon_top oy hyk (by omega)
     rw [hyl] at htop
     have btop := okW.getD oy (by decide) (lb - 1)
     refine rk_reg ?_
     refine lw_v (.slice Ab lb cb) (dv_move (T rfl rfl)) ?_
     refine lw_v (.int .i64 ((lb : Int))) (dv_move (T rfl rfl)) ?_
     refine lw_v (.int .i64 (((lb : Int)) - 1)) (dv_sub (a := (lb : Int)) (b := 1) (z := ((lb : Int)) - 1) (T rfl rfl) C (wr_i64 (by omega) (by omega))) ?_
     have h70 := (hyw.ext e4)
     obtain ⟨g71, o72, rfl⟩ := Wd.at h70 (by first | omega | (simp; done) | (simp; omega))
     refine lw_v (.pointer (some ⟨g71, o72 + ((lb) - 1), none⟩)) (dv_indexW (g := g71) (o := o72) (l := lb) (c := cb) (i := ((lb) - 1)) (j := ((lb : Int)) - 1) us105 sz36 (T rfl rfl) (T rfl rfl) (by omega) (by first | omega | (simp; done) | (simp; omega))) ?_
     refine lw_v (.int .u64 (ys.getD (((lb) - 1)) 0)) (dv_load agt36 (T rfl rfl) (Wd.cell h70 (by first | omega | (simp; done) | (simp; omega)))) ?_
     refine lw_e (oe_callf (vs := [.int .u64 (ys.getD (((lb) - 1)) 0)]) co134 (ar1 (T rfl rfl)) (lzS_ok (by omega) (by omega)) ?_)
     rintro _ w77 ⟨S73, rfl, e78, hs74, hs75, hs76⟩
     have E79 := below_ext E5 E5.size e78
     refine lw_v (.int .i64 ((S73 : Int))) (dv_assign (T rfl rfl)) ?_
     refine lw_nil ?_
     refine rk_seq ?_
     refine rk_any (fun _ => True) [9] mo ?_
     intro w80 d81
     have E82 := below_ext E79 E79.size d81.ext
     refine aw_pure 0 (.slice (some ⟨g71, o72, none⟩) lb cb) rfl (by kernel_rfl) .none trivial (fun _ => dv_move (T rfl rfl)) ?_
     refine aw_pure 1 (.int .i64 ((S73 : Int))) rfl (by kernel_rfl) .none trivial (fun _ => dv_move (T rfl rfl)) ?_
     refine aw_pure 3 (.int .i64 ((lb : Int))) rfl (by kernel_rfl) .none trivial (fun _ => dv_move (T rfl rfl)) ?_
     refine aw_pure 5 (.slice Aa la ca) rfl (by kernel_rfl) .none trivial (fun _ => dv_move (T rfl rfl)) ?_
     refine aw_pure 6 (.int .i64 ((S73 : Int))) rfl (by kernel_rfl) .none trivial (fun _ => dv_move (T rfl rfl)) ?_
     have h83 := ((h70.ext e78).ext d81.ext)
     have : w.heap.size ≤ w80.heap.size := E82.size
     refine aw_one 2 rfl (by kernel_rfl) .none (oe_callf (vs := [.slice (some ⟨g71, o72, none⟩) lb cb, .int .i64 ((S73 : Int))]) co148 (ar2 (T rfl rfl) (T rfl rfl)) (shifted_okl (S := S73) h83 (by omega) oy (by omega) (by omega)) ?_)
     rintro _ w91 ⟨b84, L85, rfl, e92, H86, hN87, hl88, ho89, hv90⟩
     have E93 := below_ext E82 E82.size e92
     have N94 : w.heap.size ≤ b84 := by omega
     refine ⟨.inr trivial, ?_⟩
     refine aw_pure 4 (.slice (some ⟨b84, 0, none⟩) lb ((ys.length + 1))) rfl (by kernel_rfl) .none trivial (fun _ => dv_sliceH (ad := some ⟨b84, 0, none⟩) (l := (ys.length + 1)) (c := (ys.length + 1)) (i := lb) (j := (lb : Int)) us105 sz36 (T rfl rfl) (T rfl rfl) (by omega) (by first | omega | (simp; done) | (simp; omega))) ?_
     have h95 := ((((hxw.ext e4).ext e78).ext d81.ext).ext e92)
     have : b84 < w91.heap.size := lt_of_blk H86
     have : w.heap.size ≤ w91.heap.size := E93.size
     refine aw_one 7 rfl (by kernel_rfl) .none (oe_callf (vs := [.slice Aa la ca, .int .i64 ((S73 : Int))]) co148 (ar2 (T rfl rfl) (T rfl rfl)) (shifted_okl (S := S73) h95 (by omega) ox (by omega) (by omega)) ?_)
     rintro _ w103 ⟨b96, L97, rfl, e104, H98, hN99, hl100, ho101, hv102⟩
     have E105 := below_ext E93 E93.size e104
     have : b84 < b96 := by omega
     have N106 : w.heap.size ≤ b96 := by omega
     refine ⟨.inr trivial, ?_⟩
     refine aw_pure 8 (.slice (some ⟨b84, 0, none⟩) lb ((ys.length + 1))) rfl (by kernel_rfl) .none trivial (fun _ => dv_assign (T rfl rfl)) ?_
     refine aw_last 9 (.slice (some ⟨b96, 0, none⟩) ((xs.length + 1)) ((xs.length + 1))) rfl (by kernel_rfl) .none (fun _ => dv_assign (T rfl rfl)) ?_
     refine aw_done (by kernel_rfl) ?_
     refine rk_seq ?_
     refine rk_reg ?_
     refine lw_v (.slice Aa la ca) (dv_move (T rfl rfl)) ?_
     refine lw_v (.int .i64 ((la : Int))) (dv_len (ad := Aa) (l := la) (c := ca) us105 (T rfl rfl)) ?_
     refine lw_v (.int .i64 ((lb : Int))) (dv_move (T rfl rfl)) ?_
     refine lw_v (.int .i64 (((la : Int)) - ((lb : Int)))) (dv_sub (a := (la : Int)) (b := (lb : Int)) (z := ((la : Int)) - ((lb : Int))) (T rfl rfl) (T rfl rfl) (wr_i64 (by omega) (by omega))) ?_
     refine lw_v (.int .i64 ((((la : Int)) - ((lb : Int))) + 1)) (dv_add (a := ((la : Int)) - ((lb : Int))) (b := 1) (z := (((la : Int)) - ((lb : Int))) + 1) (T rfl rfl) C (wr_i64 (by omega) (by omega))) ?_
     refine lw_e (oe_makeW (l := (((la) - (lb)) + 1)) (j := (((la : Int)) - ((lb : Int))) + 1) us105 in36 (T rfl rfl) (T rfl rfl) (by omega) (by first | omega | (simp; done) | (simp; omega)) (by first | omega | (simp; done) | (simp; omega)) ?_)
     intro b107 w108 n109
     have N110 : w.heap.size ≤ b107 := n109.eq ▸ E105.size
     have : b96 < b107 := n109.eq ▸ lt_of_blk H98
     have E111 := below_ext E105 E105.size n109.ext
     refine lw_v (.slice (some ⟨b107, 0, none⟩) ((((la) - (lb)) + 1)) ((((la) - (lb)) + 1))) (dv_assign (T rfl rfl)) ?_
     refine lw_nil ?_
     refine rk_seq ?_
     refine rk_seq ?_
     refine rk_reg ?_
     refine lw_v (.slice Aa la ca) (dv_move (T rfl rfl)) ?_
     refine lw_v (.int .i64 ((la : Int))) (dv_len (ad := Aa) (l := la) (c := ca) us105 (T rfl rfl)) ?_
     refine lw_v (.int .i64 ((lb : Int))) (dv_move (T rfl rfl)) ?_
     refine lw_v (.int .i64 (((la : Int)) - ((lb : Int)))) (dv_sub (a := (la : Int)) (b := (lb : Int)) (z := ((la : Int)) - ((lb : Int))) (T rfl rfl) (T rfl rfl) (wr_i64 (by omega) (by omega))) ?_
     refine lw_v (.int .i64 (((la : Int)) - ((lb : Int)))) (dv_assign (T rfl rfl)) ?_
     refine lw_nil ?_
     refine rk_block ?_
     have hVv : valB (2 ^ 64) L85 = 2 ^ S73 * y := by rw [hv90, hyv]
     have hUv : valB (2 ^ 64) L97 = 2 ^ S73 * x := by rw [hv102, hxv]
     have hVlt : 2 ^ S73 * y < (2 ^ 64) ^ lb := by
      have h := norm_lt (k := lb - 1) hs74 oy (by omega) rfl hs76 hyv
      rwa [show lb - 1 + 1 = lb by omega] at h
     have hVz := zero_of_lt (by decide) ho89 (m := lb) (by rw [hVv]; exact hVlt)
     have hVt : valB (2 ^ 64) (L85.take lb) = valB (2 ^ 64) L85 := val_take_zero hVz
     have hVp : 0 < valB (2 ^ 64) L85 := by rw [hVv]; exact Int.mul_pos (two_pos _) hy
     have hlt0 : valB (2 ^ 64) L97 < valB (2 ^ 64) L85 * (2 ^ 64) ^ (la - lb + 1) := by
      rw [hUv, hVv, Int.mul_assoc]
      have h1 := canon_ge (B := 2 ^ 64) (by decide) oy hyk (by omega)
      rw [hyl, ← hyv] at h1
      exact Int.mul_lt_mul_of_pos_left (start_lt h1 (by rw [hxv]; exact val_len ox hxl) (by omega) hll) (two_pos _)
     have hVl : L85.length = lb + 1 := by omega
     have hUl0 : L97.length = la + 1 := by omega
     have H112 := (n109.ext.blk (e104.blk H86))
     have H113 := (n109.ext.blk H98)
     refine rk_loop (fun dm_ fr wl => ∃ (J : Nat) (U O : List Int), dm_ = J ∧ fr 4 = .slice none 0 0 ∧ fr 5 = .slice none 0 0 ∧ fr 6 = .int .i64 ((lb : Int)) ∧ fr 10 = .int .i64 ((S73 : Int)) ∧ fr 11 = .slice (some ⟨b84, 0, none⟩) lb ((ys.length + 1)) ∧ fr 12 = .slice (some ⟨b96, 0, none⟩) ((xs.length + 1)) ((xs.length + 1)) ∧ fr 13 = .slice (some ⟨b107, 0, none⟩) ((((la) - (lb)) + 1)) ((((la) - (lb)) + 1)) ∧ fr 14 = .int .i64 ((J : Int) - 1) ∧ Below w.heap.size w wl ∧ wl.heap[b84]? = some (.cells (L85.map (Value.int .u64)).toArray 36) ∧ wl.heap[b96]? = some (.cells (U.map (Value.int .u64)).toArray 36) ∧ wl.heap[b107]? = some (.cells (O.map (Value.int .u64)).toArray 36) ∧ (J ≤ la - lb + 1) ∧ (U.length = la + 1) ∧ (O.length = la - lb + 1) ∧ (okW (2 ^ 64) U) ∧ (okW (2 ^ 64) O) ∧ (∀ k, k < J → O.getD k 0 = 0) ∧ (valB (2 ^ 64) U + valB (2 ^ 64) L85 * valB (2 ^ 64) O = 2 ^ S73 * x) ∧ (valB (2 ^ 64) U < valB (2 ^ 64) L85 * (2 ^ 64) ^ J)) (((la - lb + 1))) ⟨(la - lb + 1), L97, (List.replicate ((((la) - (lb)) + 1)) (0 : Int)), rfl, rfl, rfl, rfl, rfl, rfl, rfl, rfl, (vi (by omega)), E111, H112, H113, n109.blk, (Nat.le_refl _), hUl0, (by simp), ho101, (okW.replicate (by decide) _), (fun k _ => rep_zero _ k), (by rw [valB_zeros, Int.mul_zero, Int.add_zero]; exact hUv), hlt0⟩ ?_
     intro d118 fr117 w114 hI115 ih116
     obtain ⟨J, U, O, hd131, f119, f120, f121, f122, f123, f124, f125, f126, E127, H128, H129, H130, hJ, hUl, hOl, hUo, hOo, hO0, hV, hlt⟩ := hI115
     have hUz : 1 ≤ J → ∀ k, J - 1 + lb < k → U.getD k 0 = 0 := fun h1 k hk => zero_of_lt (by decide) hUo (m := J - 1 + lb + 1) (top_lt hlt (by rw [hVv]; exact hVlt) (by omega)) k (by omega)
     have bu132 := okW.getD hUo (by decide) (J - 1 + lb)
     have bu133 := okW.getD hUo (by decide) (J - 1 + lb - 1)
     have bu134 := okW.getD hUo (by decide) (J - 1 + lb - 2)
     have bv135 := okW.getD ho89 (by decide) (lb - 1)
     have bv136 := okW.getD ho89 (by decide) (lb - 2)
     have hUnn := valB_nonneg (B := 2 ^ 64) (by decide) hUo
     refine rk_seq ?_
     refine rk_seq ?_
     refine rk_reg ?_
     refine lw_v (.int .i64 ((J : Int) - 1)) (dv_move (T rfl f126)) ?_
     refine lw_v (.bool (decide (0 ≤ ((J : Int) - 1)))) (dv_geq (a := (J : Int) - 1) (b := 0) (T rfl rfl) C) ?_
     refine lw_nil ?_
     by_cases hb137 : 0 ≤ ((J : Int) - 1)
     · refine rk_ct (T rfl (congrArg Value.bool (decide_eq_true hb137))) ?_
       refine rk_skip ?_
       refine rk_seq ?_
       refine rk_block ?_
       refine rk_seq ?_
       refine rk_reg ?_
       refine lw_v (.int .u64 18446744073709551615) (dv_assign C) ?_
       refine lw_nil ?_
       refine rk_seq ?_
       refine rk_seq ?_
       refine rk_any (fun w => w.heap[b96]? = some (.cells (U.map (Value.int .u64)).toArray 36) ∧ w.heap[b84]? = some (.cells (L85.map (Value.int .u64)).toArray 36)) [] mo ?_
       intro w138 d139
       have E140 := below_ext E127 E127.size d139.ext
       have H141 := (d139.ext.blk H129)
       have H142 := (d139.ext.blk H128)
       refine aw_pure 0 (.slice (some ⟨b96, 0, none⟩) ((xs.length + 1)) ((xs.length + 1))) rfl (by kernel_rfl) .none ⟨H141, H142⟩ (fun _ => dv_move (T rfl f124)) ?_
       refine aw_pure 1 (.int .i64 ((J : Int) - 1)) rfl (by kernel_rfl) .none ⟨H141, H142⟩ (fun _ => dv_move (T rfl f126)) ?_
       refine aw_pure 2 (.int .i64 ((lb : Int))) rfl (by kernel_rfl) .none ⟨H141, H142⟩ (fun _ => dv_move (T rfl f121)) ?_
       refine aw_pure 3 (.int .i64 (((J : Int) - 1) + ((lb : Int)))) rfl (by kernel_rfl) .none ⟨H141, H142⟩ (fun _ => dv_add (a := (J : Int) - 1) (b := (lb : Int)) (z := ((J : Int) - 1) + ((lb : Int))) (T rfl rfl) (T rfl rfl) (wr_i64 (by omega) (by omega))) ?_
       refine aw_pure 4 (.pointer (some ⟨b96, (((J - 1) + (lb))), none⟩)) rfl (by kernel_rfl) .none ⟨H141, H142⟩ (fun _ => dv_indexO (g := b96) (l := (xs.length + 1)) (c := (xs.length + 1)) (i := ((J - 1) + (lb))) (j := ((J : Int) - 1) + ((lb : Int))) us105 sz36 (T rfl rfl) (T rfl rfl) (by omega) (by first | omega | (simp; done) | (simp; omega))) ?_
       refine aw_load 5 (.int .u64 (U.getD (((J - 1) + (lb))) 0)) rfl (by kernel_rfl) .none ⟨H141, H142⟩ (fun _ s => dv_loadW (L := U) (v := U.getD (((J - 1) + (lb))) 0) agt36 (T rfl rfl) s.1 (by first | omega | (simp; done) | (simp; omega)) rfl) ?_
       refine aw_pure 6 (.slice (some ⟨b84, 0, none⟩) lb ((ys.length + 1))) rfl (by kernel_rfl) .none ⟨H141, H142⟩ (fun _ => dv_move (T rfl f123)) ?_
       refine aw_pure 7 (.int .i64 ((lb : Int))) rfl (by kernel_rfl) .none ⟨H141, H142⟩ (fun _ => dv_move (T rfl f121)) ?_
       refine aw_pure 8 (.int .i64 (((lb : Int)) - 1)) rfl (by kernel_rfl) .none ⟨H141, H142⟩ (fun _ => dv_sub (a := (lb : Int)) (b := 1) (z := ((lb : Int)) - 1) (T rfl rfl) C (wr_i64 (by omega) (by omega))) ?_
       refine aw_pure 9 (.pointer (some ⟨b84, (((lb) - 1)), none⟩)) rfl (by kernel_rfl) .none ⟨H141, H142⟩ (fun _ => dv_indexO (g := b84) (l := lb) (c := (ys.length + 1)) (i := ((lb) - 1)) (j := ((lb : Int)) - 1) us105 sz36 (T rfl rfl) (T rfl rfl) (by omega) (by first | omega | (simp; done) | (simp; omega))) ?_
       refine aw_load 10 (.int .u64 (L85.getD (((lb) - 1)) 0)) rfl (by kernel_rfl) .none ⟨H141, H142⟩ (fun _ s => dv_loadW (L := L85) (v := L85.getD (((lb) - 1)) 0) agt36 (T rfl rfl) s.2 (by first | omega | (simp; done) | (simp; omega)) rfl) ?_
       refine aw_pure 11 (.bool (decide ((U.getD (((J - 1) + (lb))) 0) < (L85.getD (((lb) - 1)) 0)))) rfl (by kernel_rfl) .none ⟨H141, H142⟩ (fun _ => dv_lss (a := U.getD (((J - 1) + (lb))) 0) (b := L85.getD (((lb) - 1)) 0) (T rfl rfl) (T rfl rfl)) ?_
       refine aw_done (by kernel_rfl) ?_
       refine rk_join (fun fr wl => ∃ (q : Int), fr 4 = .slice none 0 0 ∧ fr 5 = .slice none 0 0 ∧ fr 6 = .int .i64 ((lb : Int)) ∧ fr 10 = .int .i64 ((S73 : Int)) ∧ fr 11 = .slice (some ⟨b84, 0, none⟩) lb ((ys.length + 1)) ∧ fr 12 = .slice (some ⟨b96, 0, none⟩) ((xs.length + 1)) ((xs.length + 1)) ∧ fr 13 = .slice (some ⟨b107, 0, none⟩) ((((la) - (lb)) + 1)) ((((la) - (lb)) + 1)) ∧ fr 14 = .int .i64 ((J : Int) - 1) ∧ fr 15 = .int .u64 q ∧ fr 94 = .int .i64 ((J : Int) - 1) ∧ fr 95 = .bool (decide (0 ≤ ((J : Int) - 1))) ∧ fr 98 = .slice (some ⟨b96, 0, none⟩) ((xs.length + 1)) ((xs.length + 1)) ∧ fr 99 = .int .i64 ((J : Int) - 1) ∧ fr 100 = .int .i64 ((lb : Int)) ∧ fr 101 = .int .i64 (((J : Int) - 1) + ((lb : Int))) ∧ fr 102 = .pointer (some ⟨b96, (((J - 1) + (lb))), none⟩) ∧ fr 103 = .int .u64 (U.getD (((J - 1) + (lb))) 0) ∧ fr 104 = .slice (some ⟨b84, 0, none⟩) lb ((ys.length + 1)) ∧ fr 105 = .int .i64 ((lb : Int)) ∧ fr 106 = .int .i64 (((lb : Int)) - 1) ∧ fr 107 = .pointer (some ⟨b84, (((lb) - 1)), none⟩) ∧ fr 108 = .int .u64 (L85.getD (((lb) - 1)) 0) ∧ fr 109 = .bool (decide ((U.getD (((J - 1) + (lb))) 0) < (L85.getD (((lb) - 1)) 0))) ∧ Below w.heap.size w wl ∧ wl.heap[b84]? = some (.cells (L85.map (Value.int .u64)).toArray 36) ∧ wl.heap[b96]? = some (.cells (U.map (Value.int .u64)).toArray 36) ∧ wl.heap[b107]? = some (.cells (O.map (Value.int .u64)).toArray 36) ∧ (0 ≤ q ∧ q < 18446744073709551616) ∧ (valB (2 ^ 64) U < (q + 1) * valB (2 ^ 64) L85 * (2 ^ 64) ^ (J - 1))) ?_ (fun hj145 => ?_)
       · intro fr146 w143 hI144
         obtain ⟨q, f147, f148, f149, f150, f151, f152, f153, f154, f155, f156, f157, f158, f159, f160, f161, f162, f163, f164, f165, f166, f167, f168, f169, E170, H171, H172, H173, hq, hg⟩ := hI144
         refine rk_seq ?_
         refine rk_reg ?_
         refine lw_v (.int .u64 0) (dv_assign C) ?_
         refine lw_v (.int .u64 0) (dv_assign C) ?_
         refine lw_nil ?_
         refine rk_seq ?_
         refine rk_seq ?_
         refine rk_reg ?_
         refine lw_v (.int .i64 ((lb : Int))) (dv_move (T rfl f149)) ?_
         refine lw_v (.int .i64 0) (dv_move C) ?_
         refine lw_nil ?_
         refine rk_block ?_
         refine rk_loop (fun dm_ fr wl => ∃ (i : Nat) (M : List Int) (cy bw : Int), dm_ = lb - i ∧ fr 4 = .slice none 0 0 ∧ fr 5 = .slice none 0 0 ∧ fr 6 = .int .i64 ((lb : Int)) ∧ fr 10 = .int .i64 ((S73 : Int)) ∧ fr 11 = .slice (some ⟨b84, 0, none⟩) lb ((ys.length + 1)) ∧ fr 12 = .slice (some ⟨b96, 0, none⟩) ((xs.length + 1)) ((xs.length + 1)) ∧ fr 13 = .slice (some ⟨b107, 0, none⟩) ((((la) - (lb)) + 1)) ((((la) - (lb)) + 1)) ∧ fr 14 = .int .i64 ((J : Int) - 1) ∧ fr 15 = .int .u64 q ∧ fr 20 = .int .u64 bw ∧ fr 21 = .int .u64 cy ∧ fr 94 = .int .i64 ((J : Int) - 1) ∧ fr 95 = .bool (decide (0 ≤ ((J : Int) - 1))) ∧ fr 98 = .slice (some ⟨b96, 0, none⟩) ((xs.length + 1)) ((xs.length + 1)) ∧ fr 99 = .int .i64 ((J : Int) - 1) ∧ fr 100 = .int .i64 ((lb : Int)) ∧ fr 101 = .int .i64 (((J : Int) - 1) + ((lb : Int))) ∧ fr 102 = .pointer (some ⟨b96, (((J - 1) + (lb))), none⟩) ∧ fr 103 = .int .u64 (U.getD (((J - 1) + (lb))) 0) ∧ fr 104 = .slice (some ⟨b84, 0, none⟩) lb ((ys.length + 1)) ∧ fr 105 = .int .i64 ((lb : Int)) ∧ fr 106 = .int .i64 (((lb : Int)) - 1) ∧ fr 107 = .pointer (some ⟨b84, (((lb) - 1)), none⟩) ∧ fr 108 = .int .u64 (L85.getD (((lb) - 1)) 0) ∧ fr 109 = .bool (decide ((U.getD (((J - 1) + (lb))) 0) < (L85.getD (((lb) - 1)) 0))) ∧ fr 175 = .int .i64 ((lb : Int)) ∧ fr 176 = .int .i64 ((i : Int)) ∧ Below w.heap.size w wl ∧ wl.heap[b84]? = some (.cells (L85.map (Value.int .u64)).toArray 36) ∧ wl.heap[b96]? = some (.cells (M.map (Value.int .u64)).toArray 36) ∧ wl.heap[b107]? = some (.cells (O.map (Value.int .u64)).toArray 36) ∧ (i ≤ lb) ∧ (M.length = la + 1) ∧ (okW (2 ^ 64) M) ∧ (0 ≤ cy ∧ cy < 18446744073709551616) ∧ (0 ≤ bw ∧ bw ≤ 1) ∧ (valB (2 ^ 64) M = valB (2 ^ 64) U - q * valB (2 ^ 64) (L85.take i) * (2 ^ 64) ^ (J - 1) + (cy + bw) * (2 ^ 64) ^ (J - 1 + i)) ∧ (∀ k, J - 1 + lb < k → M.getD k 0 = 0)) (lb - 0) ⟨0, U, 0, 0, rfl, f147, f148, f149, f150, f151, f152, f153, f154, f155, rfl, rfl, f156, f157, f158, f159, f160, f161, f162, f163, f164, f165, f166, f167, f168, f169, rfl, (vi (by omega)), E170, H171, H172, H173, (Nat.zero_le _), hUl, hUo, (by decide), (by decide), (by simp [valB]), (hUz (by omega))⟩ ?_
         intro d178 fr177 w174 hI175 ih176
         obtain ⟨i, M, cy, bw, hd210, f179, f180, f181, f182, f183, f184, f185, f186, f187, f188, f189, f190, f191, f192, f193, f194, f195, f196, f197, f198, f199, f200, f201, f202, f203, f204, f205, E206, H207, H208, H209, hi, hMl, hMo, hcy, hbw, hM, hMz⟩ := hI175
         have bM := okW.getD hMo (by decide) (J - 1 + i)
         have bV := okW.getD ho89 (by decide) i
         have bMt := okW.getD hMo (by decide) (J - 1 + lb)
         refine rk_seq ?_
         refine rk_reg ?_
         refine lw_v (.bool (decide (((i : Int)) < ((lb : Int))))) (dv_lss (a := (i : Int)) (b := (lb : Int)) (T rfl f205) (T rfl f204)) ?_
         refine lw_nil ?_
         refine rk_seq ?_
         by_cases hb211 : ((i : Int)) < ((lb : Int))
         · refine rk_ct (T rfl (congrArg Value.bool (decide_eq_true hb211))) ?_
           refine rk_skip ?_
           refine rk_seq ?_
           refine rk_block ?_
           refine rk_seq ?_
           refine rk_reg ?_
           refine lw_v (.int .i64 ((i : Int))) (dv_move (T rfl f205)) ?_
           refine lw_v (.int .i64 ((i : Int))) (dv_assign (T rfl rfl)) ?_
           refine lw_nil ?_
           refine rk_seq ?_
           refine rk_reg ?_
           refine lw_v (.int .u64 q) (dv_move (T rfl f187)) ?_
           refine lw_v (.slice (some ⟨b84, 0, none⟩) lb ((ys.length + 1))) (dv_move (T rfl f183)) ?_
           refine lw_v (.int .i64 ((i : Int))) (dv_move (T rfl rfl)) ?_
           refine lw_v (.pointer (some ⟨b84, i, none⟩)) (dv_indexO (g := b84) (l := lb) (c := (ys.length + 1)) (i := i) (j := (i : Int)) us105 sz36 (T rfl rfl) (T rfl rfl) (by omega) (by first | omega | (simp; done) | (simp; omega))) ?_
           refine lw_v (.int .u64 (L85.getD i 0)) (dv_loadW (L := L85) (v := L85.getD i 0) agt36 (T rfl rfl) H207 (by first | omega | (simp; done) | (simp; omega)) rfl) ?_
           have hm212 := mul_pos_bd (A := 18446744073709551615) (show 0 ≤ q by omega) (by omega) (show 0 ≤ L85.getD i 0 by omega) (by omega)
           refine lw_e (oe_callf (vs := [.int .u64 q, .int .u64 (L85.getD i 0)]) co115 (ar2 (T rfl rfl) (T rfl rfl)) (mul64_ok (by omega) (by omega)) ?_)
           rintro _ w213 ⟨rfl, e214⟩
           have E215 := below_ext E206 E206.size e214
           refine lw_v (.tuple #[.int .u64 (q * (L85.getD i 0) / 18446744073709551616), .int .u64 (q * (L85.getD i 0) % 18446744073709551616)]) (dv_move (T rfl rfl)) ?_
           refine lw_v (.int .u64 (q * (L85.getD i 0) / 18446744073709551616)) (dv_extract (vs := #[.int .u64 (q * (L85.getD i 0) / 18446744073709551616), .int .u64 (q * (L85.getD i 0) % 18446744073709551616)]) (T rfl rfl) rfl) ?_
           refine lw_v (.int .u64 (q * (L85.getD i 0) % 18446744073709551616)) (dv_extract (vs := #[.int .u64 (q * (L85.getD i 0) / 18446744073709551616), .int .u64 (q * (L85.getD i 0) % 18446744073709551616)]) (T rfl rfl) rfl) ?_
           refine lw_v (.int .u64 (q * (L85.getD i 0) / 18446744073709551616)) (dv_assign (T rfl rfl)) ?_
           refine lw_v (.int .u64 (q * (L85.getD i 0) % 18446744073709551616)) (dv_assign (T rfl rfl)) ?_
           refine lw_nil ?_
           refine rk_seq ?_
           refine rk_reg ?_
           refine lw_v (.int .u64 0) (dv_assign C) ?_
           refine lw_nil ?_
           refine rk_seq ?_
           refine rk_reg ?_
           refine lw_v (.int .u64 (q * (L85.getD i 0) % 18446744073709551616)) (dv_move (T rfl rfl)) ?_
           refine lw_v (.int .u64 cy) (dv_move (T rfl f189)) ?_
           refine lw_v (.tuple #[.int .u64 (((q * (L85.getD i 0) % 18446744073709551616) + cy + 0) % 18446744073709551616), .int .u64 (((q * (L85.getD i 0) % 18446744073709551616) + cy + 0) / 18446744073709551616)]) (dv_ext (e := add64Entry) (vs := [.int .u64 (q * (L85.getD i 0) % 18446744073709551616), .int .u64 cy, .int .u64 0]) Try.func116 rfl rfl (by kernel_rfl) (by kernel_rfl) (ar3 (T rfl rfl) (T rfl rfl) C) (run_addE (q * (L85.getD i 0) % 18446744073709551616) cy 0 (by omega) (by omega) (by omega))) ?_
           refine lw_v (.tuple #[.int .u64 (((q * (L85.getD i 0) % 18446744073709551616) + cy + 0) % 18446744073709551616), .int .u64 (((q * (L85.getD i 0) % 18446744073709551616) + cy + 0) / 18446744073709551616)]) (dv_move (T rfl rfl)) ?_
           refine lw_v (.int .u64 (((q * (L85.getD i 0) % 18446744073709551616) + cy + 0) % 18446744073709551616)) (dv_extract (vs := #[.int .u64 (((q * (L85.getD i 0) % 18446744073709551616) + cy + 0) % 18446744073709551616), .int .u64 (((q * (L85.getD i 0) % 18446744073709551616) + cy + 0) / 18446744073709551616)]) (T rfl rfl) rfl) ?_
           refine lw_v (.int .u64 (((q * (L85.getD i 0) % 18446744073709551616) + cy + 0) / 18446744073709551616)) (dv_extract (vs := #[.int .u64 (((q * (L85.getD i 0) % 18446744073709551616) + cy + 0) % 18446744073709551616), .int .u64 (((q * (L85.getD i 0) % 18446744073709551616) + cy + 0) / 18446744073709551616)]) (T rfl rfl) rfl) ?_
           refine lw_v (.int .u64 (((q * (L85.getD i 0) % 18446744073709551616) + cy + 0) % 18446744073709551616)) (dv_assign (T rfl rfl)) ?_
           refine lw_v (.int .u64 (((q * (L85.getD i 0) % 18446744073709551616) + cy + 0) / 18446744073709551616)) (dv_assign (T rfl rfl)) ?_
           refine lw_nil ?_
           refine rk_seq ?_
           refine rk_reg ?_
           refine lw_v (.int .u64 (q * (L85.getD i 0) / 18446744073709551616)) (dv_move (T rfl rfl)) ?_
           refine lw_v (.int .u64 (((q * (L85.getD i 0) % 18446744073709551616) + cy + 0) / 18446744073709551616)) (dv_move (T rfl rfl)) ?_
           refine lw_v (.int .u64 ((q * (L85.getD i 0) / 18446744073709551616) + (((q * (L85.getD i 0) % 18446744073709551616) + cy + 0) / 18446744073709551616))) (dv_add (a := q * (L85.getD i 0) / 18446744073709551616) (b := ((q * (L85.getD i 0) % 18446744073709551616) + cy + 0) / 18446744073709551616) (z := (q * (L85.getD i 0) / 18446744073709551616) + (((q * (L85.getD i 0) % 18446744073709551616) + cy + 0) / 18446744073709551616)) (T rfl rfl) (T rfl rfl) (wn_u64 (by omega) (by omega))) ?_
           refine lw_v (.int .u64 ((q * (L85.getD i 0) / 18446744073709551616) + (((q * (L85.getD i 0) % 18446744073709551616) + cy + 0) / 18446744073709551616))) (dv_assign (T rfl rfl)) ?_
           refine lw_nil ?_
           refine rk_reg ?_
           refine lw_v (.slice (some ⟨b96, 0, none⟩) ((xs.length + 1)) ((xs.length + 1))) (dv_move (T rfl f184)) ?_
           refine lw_v (.int .i64 ((J : Int) - 1)) (dv_move (T rfl f186)) ?_
           refine lw_v (.int .i64 ((i : Int))) (dv_move (T rfl rfl)) ?_
           refine lw_v (.int .i64 (((J : Int) - 1) + ((i : Int)))) (dv_add (a := (J : Int) - 1) (b := (i : Int)) (z := ((J : Int) - 1) + ((i : Int))) (T rfl rfl) (T rfl rfl) (wr_i64 (by omega) (by omega))) ?_
           refine lw_v (.slice (some ⟨b96, 0, none⟩) ((xs.length + 1)) ((xs.length + 1))) (dv_move (T rfl f184)) ?_
           refine lw_v (.int .i64 ((J : Int) - 1)) (dv_move (T rfl f186)) ?_
           refine lw_v (.int .i64 ((i : Int))) (dv_move (T rfl rfl)) ?_
           refine lw_v (.int .i64 (((J : Int) - 1) + ((i : Int)))) (dv_add (a := (J : Int) - 1) (b := (i : Int)) (z := ((J : Int) - 1) + ((i : Int))) (T rfl rfl) (T rfl rfl) (wr_i64 (by omega) (by omega))) ?_
           refine lw_v (.pointer (some ⟨b96, (((J - 1) + (i))), none⟩)) (dv_indexO (g := b96) (l := (xs.length + 1)) (c := (xs.length + 1)) (i := ((J - 1) + (i))) (j := ((J : Int) - 1) + ((i : Int))) us105 sz36 (T rfl rfl) (T rfl rfl) (by omega) (by first | omega | (simp; done) | (simp; omega))) ?_
           have H216 := (e214.blk H208)
           refine lw_v (.int .u64 (M.getD (((J - 1) + (i))) 0)) (dv_loadW (L := M) (v := M.getD (((J - 1) + (i))) 0) agt36 (T rfl rfl) H216 (by first | omega | (simp; done) | (simp; omega)) rfl) ?_
           refine lw_v (.int .u64 (((q * (L85.getD i 0) % 18446744073709551616) + cy + 0) % 18446744073709551616)) (dv_move (T rfl rfl)) ?_
           refine lw_v (.int .u64 bw) (dv_move (T rfl f188)) ?_
           refine lw_v (.tuple #[.int .u64 (((M.getD (((J - 1) + (i))) 0) - (((q * (L85.getD i 0) % 18446744073709551616) + cy + 0) % 18446744073709551616) - bw) % 18446744073709551616), .int .u64 (if (M.getD (((J - 1) + (i))) 0) < (((q * (L85.getD i 0) % 18446744073709551616) + cy + 0) % 18446744073709551616) + bw then 1 else 0)]) (dv_ext (e := subEntry) (vs := [.int .u64 (M.getD (((J - 1) + (i))) 0), .int .u64 (((q * (L85.getD i 0) % 18446744073709551616) + cy + 0) % 18446744073709551616), .int .u64 bw]) Try.func140 rfl rfl (by kernel_rfl) (by kernel_rfl) (ar3 (T rfl rfl) (T rfl rfl) (T rfl rfl)) (run_subE (M.getD (((J - 1) + (i))) 0) (((q * (L85.getD i 0) % 18446744073709551616) + cy + 0) % 18446744073709551616) bw (by omega) (by omega) (by omega) (by omega))) ?_
           refine lw_v (.tuple #[.int .u64 (((M.getD (((J - 1) + (i))) 0) - (((q * (L85.getD i 0) % 18446744073709551616) + cy + 0) % 18446744073709551616) - bw) % 18446744073709551616), .int .u64 (if (M.getD (((J - 1) + (i))) 0) < (((q * (L85.getD i 0) % 18446744073709551616) + cy + 0) % 18446744073709551616) + bw then 1 else 0)]) (dv_move (T rfl rfl)) ?_
           refine lw_v (.int .u64 (((M.getD (((J - 1) + (i))) 0) - (((q * (L85.getD i 0) % 18446744073709551616) + cy + 0) % 18446744073709551616) - bw) % 18446744073709551616)) (dv_extract (vs := #[.int .u64 (((M.getD (((J - 1) + (i))) 0) - (((q * (L85.getD i 0) % 18446744073709551616) + cy + 0) % 18446744073709551616) - bw) % 18446744073709551616), .int .u64 (if (M.getD (((J - 1) + (i))) 0) < (((q * (L85.getD i 0) % 18446744073709551616) + cy + 0) % 18446744073709551616) + bw then 1 else 0)]) (T rfl rfl) rfl) ?_
           refine lw_v (.int .u64 (if (M.getD (((J - 1) + (i))) 0) < (((q * (L85.getD i 0) % 18446744073709551616) + cy + 0) % 18446744073709551616) + bw then 1 else 0)) (dv_extract (vs := #[.int .u64 (((M.getD (((J - 1) + (i))) 0) - (((q * (L85.getD i 0) % 18446744073709551616) + cy + 0) % 18446744073709551616) - bw) % 18446744073709551616), .int .u64 (if (M.getD (((J - 1) + (i))) 0) < (((q * (L85.getD i 0) % 18446744073709551616) + cy + 0) % 18446744073709551616) + bw then 1 else 0)]) (T rfl rfl) rfl) ?_
           refine lw_v (.pointer (some ⟨b96, (((J - 1) + (i))), none⟩)) (dv_indexO (g := b96) (l := (xs.length + 1)) (c := (xs.length + 1)) (i := ((J - 1) + (i))) (j := ((J : Int) - 1) + ((i : Int))) us105 sz36 (T rfl rfl) (T rfl rfl) (by omega) (by first | omega | (simp; done) | (simp; omega))) ?_
           refine lw_e (oe_storeW (L := M) (i := ((J - 1) + (i))) (z := ((M.getD (((J - 1) + (i))) 0) - (((q * (L85.getD i 0) % 18446744073709551616) + cy + 0) % 18446744073709551616) - bw) % 18446744073709551616) sz36 (T rfl rfl) (T rfl rfl) H216 (by first | omega | (simp; done) | (simp; omega)) ?_)
           intro w217 s218 H219
           have E220 := below_st E215 N106 s218
           refine lw_v (.int .u64 (if (M.getD (((J - 1) + (i))) 0) < (((q * (L85.getD i 0) % 18446744073709551616) + cy + 0) % 18446744073709551616) + bw then 1 else 0)) (dv_assign (T rfl rfl)) ?_
           refine lw_nil ?_
           refine rk_inBlock ?_
           refine rk_reg ?_
           refine lw_v (.int .i64 (((i : Int)) + 1)) (dv_add (a := (i : Int)) (b := 1) (z := ((i : Int)) + 1) (T rfl f205) C (wr_i64 (by omega) (by omega))) ?_
           refine lw_v (.int .i64 (((i : Int)) + 1)) (dv_move (T rfl rfl)) ?_
           refine lw_nil ?_
           have H221 := (s218.blk (e214.blk H207) (by omega))
           have H222 := (s218.blk (e214.blk H209) (by omega))
           exact ih176 (lb - ((i + 1))) _ _ (by rw [hd210]; omega) ⟨(i + 1), (M.set (((J - 1) + (i))) (((M.getD (((J - 1) + (i))) 0) - (((q * (L85.getD i 0) % 18446744073709551616) + cy + 0) % 18446744073709551616) - bw) % 18446744073709551616)), ((q * (L85.getD i 0) / 18446744073709551616) + (((q * (L85.getD i 0) % 18446744073709551616) + cy + 0) / 18446744073709551616)), (if (M.getD (((J - 1) + (i))) 0) < (((q * (L85.getD i 0) % 18446744073709551616) + cy + 0) % 18446744073709551616) + bw then 1 else 0), rfl, f179, f180, f181, f182, f183, f184, f185, f186, f187, rfl, rfl, f190, f191, f192, f193, f194, f195, f196, f197, f198, f199, f200, f201, f202, f203, f204, (vi (by omega)), E220, H221, H219, H222, (by omega), (by simp [hMl]), (okW.set hMo (by omega) (by omega) _), (by omega), (by split <;> omega), (msub_step (lo := ((q * (L85.getD i 0) % 18446744073709551616) + cy + 0) % 18446744073709551616) (by omega) hM (by rw [p64]; omega) (by rw [p64]; split <;> omega)), (fun k hk => by rw [Fw.getD_set_neQ _ _ _ _ (by omega)]; exact hMz k hk)⟩
         · refine rk_cf (T rfl (congrArg Value.bool (decide_eq_false hb211))) ?_
           refine rk_exit rfl ?_
           refine rk_seq ?_
           refine rk_reg ?_
           refine lw_v (.slice (some ⟨b96, 0, none⟩) ((xs.length + 1)) ((xs.length + 1))) (dv_move (T rfl f184)) ?_
           refine lw_v (.int .i64 ((J : Int) - 1)) (dv_move (T rfl f186)) ?_
           refine lw_v (.int .i64 ((lb : Int))) (dv_move (T rfl f181)) ?_
           refine lw_v (.int .i64 (((J : Int) - 1) + ((lb : Int)))) (dv_add (a := (J : Int) - 1) (b := (lb : Int)) (z := ((J : Int) - 1) + ((lb : Int))) (T rfl rfl) (T rfl rfl) (wr_i64 (by omega) (by omega))) ?_
           refine lw_v (.slice (some ⟨b96, 0, none⟩) ((xs.length + 1)) ((xs.length + 1))) (dv_move (T rfl f184)) ?_
           refine lw_v (.int .i64 ((J : Int) - 1)) (dv_move (T rfl f186)) ?_
           refine lw_v (.int .i64 ((lb : Int))) (dv_move (T rfl f181)) ?_
           refine lw_v (.int .i64 (((J : Int) - 1) + ((lb : Int)))) (dv_add (a := (J : Int) - 1) (b := (lb : Int)) (z := ((J : Int) - 1) + ((lb : Int))) (T rfl rfl) (T rfl rfl) (wr_i64 (by omega) (by omega))) ?_
           refine lw_v (.pointer (some ⟨b96, (((J - 1) + (lb))), none⟩)) (dv_indexO (g := b96) (l := (xs.length + 1)) (c := (xs.length + 1)) (i := ((J - 1) + (lb))) (j := ((J : Int) - 1) + ((lb : Int))) us105 sz36 (T rfl rfl) (T rfl rfl) (by omega) (by first | omega | (simp; done) | (simp; omega))) ?_
           refine lw_v (.int .u64 (M.getD (((J - 1) + (lb))) 0)) (dv_loadW (L := M) (v := M.getD (((J - 1) + (lb))) 0) agt36 (T rfl rfl) H208 (by first | omega | (simp; done) | (simp; omega)) rfl) ?_
           refine lw_v (.int .u64 cy) (dv_move (T rfl f189)) ?_
           refine lw_v (.int .u64 bw) (dv_move (T rfl f188)) ?_
           refine lw_v (.tuple #[.int .u64 (((M.getD (((J - 1) + (lb))) 0) - cy - bw) % 18446744073709551616), .int .u64 (if (M.getD (((J - 1) + (lb))) 0) < cy + bw then 1 else 0)]) (dv_ext (e := subEntry) (vs := [.int .u64 (M.getD (((J - 1) + (lb))) 0), .int .u64 cy, .int .u64 bw]) Try.func140 rfl rfl (by kernel_rfl) (by kernel_rfl) (ar3 (T rfl rfl) (T rfl rfl) (T rfl rfl)) (run_subE (M.getD (((J - 1) + (lb))) 0) cy bw (by omega) (by omega) (by omega) (by omega))) ?_
           refine lw_v (.tuple #[.int .u64 (((M.getD (((J - 1) + (lb))) 0) - cy - bw) % 18446744073709551616), .int .u64 (if (M.getD (((J - 1) + (lb))) 0) < cy + bw then 1 else 0)]) (dv_move (T rfl rfl)) ?_
           refine lw_v (.int .u64 (((M.getD (((J - 1) + (lb))) 0) - cy - bw) % 18446744073709551616)) (dv_extract (vs := #[.int .u64 (((M.getD (((J - 1) + (lb))) 0) - cy - bw) % 18446744073709551616), .int .u64 (if (M.getD (((J - 1) + (lb))) 0) < cy + bw then 1 else 0)]) (T rfl rfl) rfl) ?_
           refine lw_v (.int .u64 (if (M.getD (((J - 1) + (lb))) 0) < cy + bw then 1 else 0)) (dv_extract (vs := #[.int .u64 (((M.getD (((J - 1) + (lb))) 0) - cy - bw) % 18446744073709551616), .int .u64 (if (M.getD (((J - 1) + (lb))) 0) < cy + bw then 1 else 0)]) (T rfl rfl) rfl) ?_
           refine lw_v (.pointer (some ⟨b96, (((J - 1) + (lb))), none⟩)) (dv_indexO (g := b96) (l := (xs.length + 1)) (c := (xs.length + 1)) (i := ((J - 1) + (lb))) (j := ((J : Int) - 1) + ((lb : Int))) us105 sz36 (T rfl rfl) (T rfl rfl) (by omega) (by first | omega | (simp; done) | (simp; omega))) ?_
           refine lw_e (oe_storeW (L := M) (i := ((J - 1) + (lb))) (z := ((M.getD (((J - 1) + (lb))) 0) - cy - bw) % 18446744073709551616) sz36 (T rfl rfl) (T rfl rfl) H208 (by first | omega | (simp; done) | (simp; omega)) ?_)
           intro w223 s224 H225
           have E226 := below_st E206 N106 s224
           refine lw_v (.int .u64 (if (M.getD (((J - 1) + (lb))) 0) < cy + bw then 1 else 0)) (dv_assign (T rfl rfl)) ?_
           refine lw_nil ?_
           refine rk_seq ?_
           refine rk_block ?_
           have H227 := (s224.blk H207 (by omega))
           have H228 := (s224.blk H209 (by omega))
           refine rk_loop (fun dm_ fr wl => ∃ (qq : Int) (P : List Int) (bb : Int), dm_ = qq.toNat ∧ fr 4 = .slice none 0 0 ∧ fr 5 = .slice none 0 0 ∧ fr 6 = .int .i64 ((lb : Int)) ∧ fr 10 = .int .i64 ((S73 : Int)) ∧ fr 11 = .slice (some ⟨b84, 0, none⟩) lb ((ys.length + 1)) ∧ fr 12 = .slice (some ⟨b96, 0, none⟩) ((xs.length + 1)) ((xs.length + 1)) ∧ fr 13 = .slice (some ⟨b107, 0, none⟩) ((((la) - (lb)) + 1)) ((((la) - (lb)) + 1)) ∧ fr 14 = .int .i64 ((J : Int) - 1) ∧ fr 15 = .int .u64 qq ∧ fr 20 = .int .u64 bb ∧ fr 21 = .int .u64 cy ∧ fr 94 = .int .i64 ((J : Int) - 1) ∧ fr 95 = .bool (decide (0 ≤ ((J : Int) - 1))) ∧ fr 98 = .slice (some ⟨b96, 0, none⟩) ((xs.length + 1)) ((xs.length + 1)) ∧ fr 99 = .int .i64 ((J : Int) - 1) ∧ fr 100 = .int .i64 ((lb : Int)) ∧ fr 101 = .int .i64 (((J : Int) - 1) + ((lb : Int))) ∧ fr 102 = .pointer (some ⟨b96, (((J - 1) + (lb))), none⟩) ∧ fr 103 = .int .u64 (U.getD (((J - 1) + (lb))) 0) ∧ fr 104 = .slice (some ⟨b84, 0, none⟩) lb ((ys.length + 1)) ∧ fr 105 = .int .i64 ((lb : Int)) ∧ fr 106 = .int .i64 (((lb : Int)) - 1) ∧ fr 107 = .pointer (some ⟨b84, (((lb) - 1)), none⟩) ∧ fr 108 = .int .u64 (L85.getD (((lb) - 1)) 0) ∧ fr 109 = .bool (decide ((U.getD (((J - 1) + (lb))) 0) < (L85.getD (((lb) - 1)) 0))) ∧ fr 175 = .int .i64 ((lb : Int)) ∧ fr 176 = .int .i64 ((i : Int)) ∧ fr 177 = .bool (decide (((i : Int)) < ((lb : Int)))) ∧ fr 215 = .tuple #[.int .u64 (((M.getD (((J - 1) + (lb))) 0) - cy - bw) % 18446744073709551616), .int .u64 (if (M.getD (((J - 1) + (lb))) 0) < cy + bw then 1 else 0)] ∧ fr 216 = .slice (some ⟨b96, 0, none⟩) ((xs.length + 1)) ((xs.length + 1)) ∧ fr 217 = .int .i64 ((J : Int) - 1) ∧ fr 218 = .int .i64 ((lb : Int)) ∧ fr 219 = .int .i64 (((J : Int) - 1) + ((lb : Int))) ∧ fr 220 = .slice (some ⟨b96, 0, none⟩) ((xs.length + 1)) ((xs.length + 1)) ∧ fr 221 = .int .i64 ((J : Int) - 1) ∧ fr 222 = .int .i64 ((lb : Int)) ∧ fr 223 = .int .i64 (((J : Int) - 1) + ((lb : Int))) ∧ fr 224 = .pointer (some ⟨b96, (((J - 1) + (lb))), none⟩) ∧ fr 225 = .int .u64 (M.getD (((J - 1) + (lb))) 0) ∧ fr 226 = .int .u64 cy ∧ fr 227 = .int .u64 bw ∧ fr 228 = .tuple #[.int .u64 (((M.getD (((J - 1) + (lb))) 0) - cy - bw) % 18446744073709551616), .int .u64 (if (M.getD (((J - 1) + (lb))) 0) < cy + bw then 1 else 0)] ∧ fr 229 = .int .u64 (((M.getD (((J - 1) + (lb))) 0) - cy - bw) % 18446744073709551616) ∧ fr 230 = .int .u64 (if (M.getD (((J - 1) + (lb))) 0) < cy + bw then 1 else 0) ∧ fr 231 = .pointer (some ⟨b96, (((J - 1) + (lb))), none⟩) ∧ Below w.heap.size w wl ∧ wl.heap[b84]? = some (.cells (L85.map (Value.int .u64)).toArray 36) ∧ wl.heap[b96]? = some (.cells (P.map (Value.int .u64)).toArray 36) ∧ wl.heap[b107]? = some (.cells (O.map (Value.int .u64)).toArray 36) ∧ (0 ≤ qq ∧ qq < 18446744073709551616) ∧ (P.length = la + 1) ∧ (okW (2 ^ 64) P) ∧ (0 ≤ bb ∧ bb ≤ 1) ∧ (valB (2 ^ 64) P = valB (2 ^ 64) U - qq * valB (2 ^ 64) L85 * (2 ^ 64) ^ (J - 1) + bb * (2 ^ 64) ^ (J - 1 + lb + 1)) ∧ (∀ k, J - 1 + lb < k → P.getD k 0 = 0) ∧ (valB (2 ^ 64) U < (qq + 1) * valB (2 ^ 64) L85 * (2 ^ 64) ^ (J - 1))) (q.toNat) ⟨q, (M.set (((J - 1) + (lb))) (((M.getD (((J - 1) + (lb))) 0) - cy - bw) % 18446744073709551616)), (if (M.getD (((J - 1) + (lb))) 0) < cy + bw then 1 else 0), rfl, f179, f180, f181, f182, f183, f184, f185, f186, f187, rfl, f189, f190, f191, f192, f193, f194, f195, f196, f197, f198, f199, f200, f201, f202, f203, f204, f205, rfl, rfl, rfl, rfl, rfl, rfl, rfl, rfl, rfl, rfl, rfl, rfl, rfl, rfl, rfl, rfl, rfl, rfl, E226, H227, H225, H228, hq, (by simp [hMl]), (okW.set hMo (by omega) (by omega) _), (by split <;> omega), (by have h := hM; rw [show i = lb by omega, hVt] at h; exact msub_top (by omega) h (by rw [p64]; split <;> omega)), (fun k hk => by rw [Fw.getD_set_neQ _ _ _ _ (by omega)]; exact hMz k hk), hg⟩ ?_
           intro d233 fr232 w229 hI230 ih231
           obtain ⟨qq, P, bb, hd283, f234, f235, f236, f237, f238, f239, f240, f241, f242, f243, f244, f245, f246, f247, f248, f249, f250, f251, f252, f253, f254, f255, f256, f257, f258, f259, f260, f261, f262, f263, f264, f265, f266, f267, f268, f269, f270, f271, f272, f273, f274, f275, f276, f277, f278, E279, H280, H281, H282, hqq, hPl, hPo, hbb, hP, hPz, hgq⟩ := hI230
           have hPlt : valB (2 ^ 64) P < (2 ^ 64) ^ (J - 1 + lb + 1) := lt_of_zero (by decide) hPo (fun k hk => hPz k (by omega))
           refine rk_seq ?_
           refine rk_seq ?_
           refine rk_reg ?_
           refine lw_v (.int .u64 bb) (dv_move (T rfl f243)) ?_
           refine lw_v (.bool (decide (bb = 1))) (dv_eql (a := bb) (b := 1) (T rfl rfl) C) ?_
           refine lw_nil ?_
           by_cases hb284 : bb = 1
           · refine rk_ct (T rfl (congrArg Value.bool (decide_eq_true hb284))) ?_
             refine rk_skip ?_
             refine rk_block ?_
             refine rk_seq ?_
             have hneg := back_neg (by rw [show bb = 1 by omega] at hP; exact hP) hPlt
             have hq1 := back_pos hVp (by decide) hUnn hneg
             refine rk_reg ?_
             refine lw_v (.int .u64 qq) (dv_move (T rfl f242)) ?_
             refine lw_v (.int .u64 (qq - 1)) (dv_sub (a := qq) (b := 1) (z := qq - 1) (T rfl rfl) C (wn_u64 (by omega) (by omega))) ?_
             refine lw_v (.int .u64 (qq - 1)) (dv_assign (T rfl rfl)) ?_
             refine lw_nil ?_
             refine rk_seq ?_
             refine rk_reg ?_
             refine lw_v (.int .u64 0) (dv_assign C) ?_
             refine lw_nil ?_
             refine rk_seq ?_
             refine rk_seq ?_
             refine rk_reg ?_
             refine lw_v (.int .i64 ((lb : Int))) (dv_move (T rfl f236)) ?_
             refine lw_v (.int .i64 0) (dv_move C) ?_
             refine lw_nil ?_
             refine rk_block ?_
             refine rk_loop (fun dm_ fr wl => ∃ (i2 : Nat) (R : List Int) (cr : Int), dm_ = lb - i2 ∧ fr 4 = .slice none 0 0 ∧ fr 5 = .slice none 0 0 ∧ fr 6 = .int .i64 ((lb : Int)) ∧ fr 10 = .int .i64 ((S73 : Int)) ∧ fr 11 = .slice (some ⟨b84, 0, none⟩) lb ((ys.length + 1)) ∧ fr 12 = .slice (some ⟨b96, 0, none⟩) ((xs.length + 1)) ((xs.length + 1)) ∧ fr 13 = .slice (some ⟨b107, 0, none⟩) ((((la) - (lb)) + 1)) ((((la) - (lb)) + 1)) ∧ fr 14 = .int .i64 ((J : Int) - 1) ∧ fr 15 = .int .u64 (qq - 1) ∧ fr 20 = .int .u64 bb ∧ fr 21 = .int .u64 cy ∧ fr 26 = .int .u64 cr ∧ fr 94 = .int .i64 ((J : Int) - 1) ∧ fr 95 = .bool (decide (0 ≤ ((J : Int) - 1))) ∧ fr 98 = .slice (some ⟨b96, 0, none⟩) ((xs.length + 1)) ((xs.length + 1)) ∧ fr 99 = .int .i64 ((J : Int) - 1) ∧ fr 100 = .int .i64 ((lb : Int)) ∧ fr 101 = .int .i64 (((J : Int) - 1) + ((lb : Int))) ∧ fr 102 = .pointer (some ⟨b96, (((J - 1) + (lb))), none⟩) ∧ fr 103 = .int .u64 (U.getD (((J - 1) + (lb))) 0) ∧ fr 104 = .slice (some ⟨b84, 0, none⟩) lb ((ys.length + 1)) ∧ fr 105 = .int .i64 ((lb : Int)) ∧ fr 106 = .int .i64 (((lb : Int)) - 1) ∧ fr 107 = .pointer (some ⟨b84, (((lb) - 1)), none⟩) ∧ fr 108 = .int .u64 (L85.getD (((lb) - 1)) 0) ∧ fr 109 = .bool (decide ((U.getD (((J - 1) + (lb))) 0) < (L85.getD (((lb) - 1)) 0))) ∧ fr 175 = .int .i64 ((lb : Int)) ∧ fr 176 = .int .i64 ((i : Int)) ∧ fr 177 = .bool (decide (((i : Int)) < ((lb : Int)))) ∧ fr 215 = .tuple #[.int .u64 (((M.getD (((J - 1) + (lb))) 0) - cy - bw) % 18446744073709551616), .int .u64 (if (M.getD (((J - 1) + (lb))) 0) < cy + bw then 1 else 0)] ∧ fr 216 = .slice (some ⟨b96, 0, none⟩) ((xs.length + 1)) ((xs.length + 1)) ∧ fr 217 = .int .i64 ((J : Int) - 1) ∧ fr 218 = .int .i64 ((lb : Int)) ∧ fr 219 = .int .i64 (((J : Int) - 1) + ((lb : Int))) ∧ fr 220 = .slice (some ⟨b96, 0, none⟩) ((xs.length + 1)) ((xs.length + 1)) ∧ fr 221 = .int .i64 ((J : Int) - 1) ∧ fr 222 = .int .i64 ((lb : Int)) ∧ fr 223 = .int .i64 (((J : Int) - 1) + ((lb : Int))) ∧ fr 224 = .pointer (some ⟨b96, (((J - 1) + (lb))), none⟩) ∧ fr 225 = .int .u64 (M.getD (((J - 1) + (lb))) 0) ∧ fr 226 = .int .u64 cy ∧ fr 227 = .int .u64 bw ∧ fr 228 = .tuple #[.int .u64 (((M.getD (((J - 1) + (lb))) 0) - cy - bw) % 18446744073709551616), .int .u64 (if (M.getD (((J - 1) + (lb))) 0) < cy + bw then 1 else 0)] ∧ fr 229 = .int .u64 (((M.getD (((J - 1) + (lb))) 0) - cy - bw) % 18446744073709551616) ∧ fr 230 = .int .u64 (if (M.getD (((J - 1) + (lb))) 0) < cy + bw then 1 else 0) ∧ fr 231 = .pointer (some ⟨b96, (((J - 1) + (lb))), none⟩) ∧ fr 232 = .int .u64 bb ∧ fr 233 = .bool (decide (bb = 1)) ∧ fr 234 = .int .u64 qq ∧ fr 235 = .int .u64 (qq - 1) ∧ fr 236 = .int .i64 ((lb : Int)) ∧ fr 237 = .int .i64 ((i2 : Int)) ∧ Below w.heap.size w wl ∧ wl.heap[b84]? = some (.cells (L85.map (Value.int .u64)).toArray 36) ∧ wl.heap[b96]? = some (.cells (R.map (Value.int .u64)).toArray 36) ∧ wl.heap[b107]? = some (.cells (O.map (Value.int .u64)).toArray 36) ∧ (i2 ≤ lb) ∧ (R.length = la + 1) ∧ (okW (2 ^ 64) R) ∧ (0 ≤ cr ∧ cr ≤ 1) ∧ (valB (2 ^ 64) R + cr * (2 ^ 64) ^ (J - 1 + i2) = valB (2 ^ 64) P + valB (2 ^ 64) (L85.take i2) * (2 ^ 64) ^ (J - 1)) ∧ (∀ k, J - 1 + lb < k → R.getD k 0 = 0)) (lb - 0) ⟨0, P, 0, rfl, f234, f235, f236, f237, f238, f239, f240, f241, rfl, f243, f244, rfl, f245, f246, f247, f248, f249, f250, f251, f252, f253, f254, f255, f256, f257, f258, f259, f260, f261, f262, f263, f264, f265, f266, f267, f268, f269, f270, f271, f272, f273, f274, f275, f276, f277, f278, rfl, rfl, rfl, rfl, rfl, (vi (by omega)), E279, H280, H281, H282, (Nat.zero_le _), hPl, hPo, (by decide), (by simp [valB]), hPz⟩ ?_
             intro d289 fr288 w285 hI286 ih287
             obtain ⟨i2, R, cr, hd346, f290, f291, f292, f293, f294, f295, f296, f297, f298, f299, f300, f301, f302, f303, f304, f305, f306, f307, f308, f309, f310, f311, f312, f313, f314, f315, f316, f317, f318, f319, f320, f321, f322, f323, f324, f325, f326, f327, f328, f329, f330, f331, f332, f333, f334, f335, f336, f337, f338, f339, f340, f341, E342, H343, H344, H345, hi2, hRl, hRo, hca, hR, hRz⟩ := hI286
             have bR := okW.getD hRo (by decide) (J - 1 + i2)
             have bV := okW.getD ho89 (by decide) i2
             have bRt := okW.getD hRo (by decide) (J - 1 + lb)
             refine rk_seq ?_
             refine rk_reg ?_
             refine lw_v (.bool (decide (((i2 : Int)) < ((lb : Int))))) (dv_lss (a := (i2 : Int)) (b := (lb : Int)) (T rfl f341) (T rfl f340)) ?_
             refine lw_nil ?_
             refine rk_seq ?_
             by_cases hb347 : ((i2 : Int)) < ((lb : Int))
             · refine rk_ct (T rfl (congrArg Value.bool (decide_eq_true hb347))) ?_
               refine rk_skip ?_
               refine rk_seq ?_
               refine rk_block ?_
               refine rk_seq ?_
               refine rk_reg ?_
               refine lw_v (.int .i64 ((i2 : Int))) (dv_move (T rfl f341)) ?_
               refine lw_v (.int .i64 ((i2 : Int))) (dv_assign (T rfl rfl)) ?_
               refine lw_nil ?_
               refine rk_st 20 [.slice (some ⟨b96, 0, none⟩) ((xs.length + 1)) ((xs.length + 1)), .int .i64 ((J : Int) - 1), .int .i64 ((i2 : Int)), .int .i64 (((J : Int) - 1) + ((i2 : Int))), .slice (some ⟨b96, 0, none⟩) ((xs.length + 1)) ((xs.length + 1)), .int .i64 ((J : Int) - 1), .int .i64 ((i2 : Int)), .int .i64 (((J : Int) - 1) + ((i2 : Int))), .pointer (some ⟨b96, (((J - 1) + (i2))), none⟩), .int .u64 (R.getD (((J - 1) + (i2))) 0), .slice (some ⟨b84, 0, none⟩) lb ((ys.length + 1)), .int .i64 ((i2 : Int)), .pointer (some ⟨b84, i2, none⟩), .int .u64 (L85.getD i2 0), .int .u64 cr, .tuple #[.int .u64 (((R.getD (((J - 1) + (i2))) 0) + (L85.getD i2 0) + cr) % 18446744073709551616), .int .u64 (((R.getD (((J - 1) + (i2))) 0) + (L85.getD i2 0) + cr) / 18446744073709551616)], .tuple #[.int .u64 (((R.getD (((J - 1) + (i2))) 0) + (L85.getD i2 0) + cr) % 18446744073709551616), .int .u64 (((R.getD (((J - 1) + (i2))) 0) + (L85.getD i2 0) + cr) / 18446744073709551616)], .int .u64 (((R.getD (((J - 1) + (i2))) 0) + (L85.getD i2 0) + cr) % 18446744073709551616), .int .u64 (((R.getD (((J - 1) + (i2))) 0) + (L85.getD i2 0) + cr) / 18446744073709551616), .pointer (some ⟨b96, (((J - 1) + (i2))), none⟩), undef, .int .u64 (((R.getD (((J - 1) + (i2))) 0) + (L85.getD i2 0) + cr) / 18446744073709551616)] (fun wk => ∃ wd, Drew w285 wd ∧ St b96 wd wk ∧ wk.heap[b96]? = some (.cells (((R.set (((J - 1) + (i2))) (((R.getD (((J - 1) + (i2))) 0) + (L85.getD i2 0) + cr) % 18446744073709551616))).map (Value.int .u64)).toArray 36)) mo (by kernel_rfl) ?_ ?_
               · intro w348 d349
                 have E350 := below_ext E342 E342.size d349.ext
                 refine ⟨?_, ?_, ?_, ?_, ?_, ?_, ?_, ?_, ?_, ?_, ?_, ?_, ?_, ?_, ?_, ?_, ?_, ?_, ?_, ?_, ?_, ?_, trivial⟩
                 · intro fr351 w352 hB353 hF354 hD355
                   obtain rfl := hB353 (.inr (by kernel_rfl))
                   exact DV.oe (dv_move (T rfl ((hF354 12 (by kernel_rfl)).trans f295))) (by rw [if_neg (by decide)]; exact ⟨rfl, rfl⟩)
                 · intro fr356 w357 hB358 hF359 hD360
                   obtain rfl := hB358 (.inr (by kernel_rfl))
                   exact DV.oe (dv_move (T rfl ((hF359 14 (by kernel_rfl)).trans f297))) (by rw [if_neg (by decide)]; exact ⟨rfl, rfl⟩)
                 · intro fr361 w362 hB363 hF364 hD365
                   obtain rfl := hB363 (.inr (by kernel_rfl))
                   exact DV.oe (dv_move (T rfl (hF364 27 (by kernel_rfl)))) (by rw [if_neg (by decide)]; exact ⟨rfl, rfl⟩)
                 · intro fr366 w367 hB368 hF369 hD370
                   obtain rfl := hB368 (.inr (by kernel_rfl))
                   have hv371 : fr366 242 = .int .i64 ((J : Int) - 1) := hD370 1 _ (by decide) rfl (by kernel_rfl)
                   have hv372 : fr366 243 = .int .i64 ((i2 : Int)) := hD370 2 _ (by decide) rfl (by kernel_rfl)
                   exact DV.oe (dv_add (a := (J : Int) - 1) (b := (i2 : Int)) (z := ((J : Int) - 1) + ((i2 : Int))) (T rfl hv371) (T rfl hv372) (wr_i64 (by omega) (by omega))) (by rw [if_neg (by decide)]; exact ⟨rfl, rfl⟩)
                 · intro fr373 w374 hB375 hF376 hD377
                   obtain rfl := hB375 (.inr (by kernel_rfl))
                   exact DV.oe (dv_move (T rfl ((hF376 12 (by kernel_rfl)).trans f295))) (by rw [if_neg (by decide)]; exact ⟨rfl, rfl⟩)
                 · intro fr378 w379 hB380 hF381 hD382
                   obtain rfl := hB380 (.inr (by kernel_rfl))
                   exact DV.oe (dv_move (T rfl ((hF381 14 (by kernel_rfl)).trans f297))) (by rw [if_neg (by decide)]; exact ⟨rfl, rfl⟩)
                 · intro fr383 w384 hB385 hF386 hD387
                   obtain rfl := hB385 (.inr (by kernel_rfl))
                   exact DV.oe (dv_move (T rfl (hF386 27 (by kernel_rfl)))) (by rw [if_neg (by decide)]; exact ⟨rfl, rfl⟩)
                 · intro fr388 w389 hB390 hF391 hD392
                   obtain rfl := hB390 (.inr (by kernel_rfl))
                   have hv393 : fr388 246 = .int .i64 ((J : Int) - 1) := hD392 5 _ (by decide) rfl (by kernel_rfl)
                   have hv394 : fr388 247 = .int .i64 ((i2 : Int)) := hD392 6 _ (by decide) rfl (by kernel_rfl)
                   exact DV.oe (dv_add (a := (J : Int) - 1) (b := (i2 : Int)) (z := ((J : Int) - 1) + ((i2 : Int))) (T rfl hv393) (T rfl hv394) (wr_i64 (by omega) (by omega))) (by rw [if_neg (by decide)]; exact ⟨rfl, rfl⟩)
                 · intro fr395 w396 hB397 hF398 hD399
                   obtain rfl := hB397 (.inr (by kernel_rfl))
                   have hv400 : fr395 245 = .slice (some ⟨b96, 0, none⟩) ((xs.length + 1)) ((xs.length + 1)) := hD399 4 _ (by decide) rfl (by kernel_rfl)
                   have hv401 : fr395 248 = .int .i64 (((J : Int) - 1) + ((i2 : Int))) := hD399 7 _ (by decide) rfl (by kernel_rfl)
                   exact DV.oe (dv_indexO (g := b96) (l := (xs.length + 1)) (c := (xs.length + 1)) (i := ((J - 1) + (i2))) (j := ((J : Int) - 1) + ((i2 : Int))) us105 sz36 (T rfl hv400) (T rfl hv401) (by omega) (by first | omega | (simp; done) | (simp; omega))) (by rw [if_neg (by decide)]; exact ⟨rfl, rfl⟩)
                 · intro fr402 w403 hB404 hF405 hD406
                   obtain rfl := hB404 (.inr (by kernel_rfl))
                   have hv407 : fr402 249 = .pointer (some ⟨b96, (((J - 1) + (i2))), none⟩) := hD406 8 _ (by decide) rfl (by kernel_rfl)
                   have H408 := (d349.ext.blk H344)
                   exact DV.oe (dv_loadW (L := R) (v := R.getD (((J - 1) + (i2))) 0) agt36 (T rfl hv407) H408 (by first | omega | (simp; done) | (simp; omega)) rfl) (by rw [if_neg (by decide)]; exact ⟨rfl, rfl⟩)
                 · intro fr409 w410 hB411 hF412 hD413
                   obtain rfl := hB411 (.inr (by kernel_rfl))
                   exact DV.oe (dv_move (T rfl ((hF412 11 (by kernel_rfl)).trans f294))) (by rw [if_neg (by decide)]; exact ⟨rfl, rfl⟩)
                 · intro fr414 w415 hB416 hF417 hD418
                   obtain rfl := hB416 (.inr (by kernel_rfl))
                   exact DV.oe (dv_move (T rfl (hF417 27 (by kernel_rfl)))) (by rw [if_neg (by decide)]; exact ⟨rfl, rfl⟩)
                 · intro fr419 w420 hB421 hF422 hD423
                   obtain rfl := hB421 (.inr (by kernel_rfl))
                   have hv424 : fr419 251 = .slice (some ⟨b84, 0, none⟩) lb ((ys.length + 1)) := hD423 10 _ (by decide) rfl (by kernel_rfl)
                   have hv425 : fr419 252 = .int .i64 ((i2 : Int)) := hD423 11 _ (by decide) rfl (by kernel_rfl)
                   exact DV.oe (dv_indexO (g := b84) (l := lb) (c := (ys.length + 1)) (i := i2) (j := (i2 : Int)) us105 sz36 (T rfl hv424) (T rfl hv425) (by omega) (by first | omega | (simp; done) | (simp; omega))) (by rw [if_neg (by decide)]; exact ⟨rfl, rfl⟩)
                 · intro fr426 w427 hB428 hF429 hD430
                   obtain rfl := hB428 (.inr (by kernel_rfl))
                   have hv431 : fr426 253 = .pointer (some ⟨b84, i2, none⟩) := hD430 12 _ (by decide) rfl (by kernel_rfl)
                   have H432 := (d349.ext.blk H343)
                   exact DV.oe (dv_loadW (L := L85) (v := L85.getD i2 0) agt36 (T rfl hv431) H432 (by first | omega | (simp; done) | (simp; omega)) rfl) (by rw [if_neg (by decide)]; exact ⟨rfl, rfl⟩)
                 · intro fr433 w434 hB435 hF436 hD437
                   obtain rfl := hB435 (.inr (by kernel_rfl))
                   exact DV.oe (dv_move (T rfl ((hF436 26 (by kernel_rfl)).trans f301))) (by rw [if_neg (by decide)]; exact ⟨rfl, rfl⟩)
                 · intro fr438 w439 hB440 hF441 hD442
                   obtain rfl := hB440 (.inr (by kernel_rfl))
                   have hv443 : fr438 250 = .int .u64 (R.getD (((J - 1) + (i2))) 0) := hD442 9 _ (by decide) rfl (by kernel_rfl)
                   have hv444 : fr438 254 = .int .u64 (L85.getD i2 0) := hD442 13 _ (by decide) rfl (by kernel_rfl)
                   have hv445 : fr438 255 = .int .u64 cr := hD442 14 _ (by decide) rfl (by kernel_rfl)
                   exact DV.oe (dv_ext (e := add64Entry) (vs := [.int .u64 (R.getD (((J - 1) + (i2))) 0), .int .u64 (L85.getD i2 0), .int .u64 cr]) Try.func116 rfl rfl (by kernel_rfl) (by kernel_rfl) (ar3 (T rfl hv443) (T rfl hv444) (T rfl hv445)) (run_addE (R.getD (((J - 1) + (i2))) 0) (L85.getD i2 0) cr (by omega) (by omega) (by omega))) (by rw [if_neg (by decide)]; exact ⟨rfl, rfl⟩)
                 · intro fr446 w447 hB448 hF449 hD450
                   obtain rfl := hB448 (.inr (by kernel_rfl))
                   have hv451 : fr446 256 = .tuple #[.int .u64 (((R.getD (((J - 1) + (i2))) 0) + (L85.getD i2 0) + cr) % 18446744073709551616), .int .u64 (((R.getD (((J - 1) + (i2))) 0) + (L85.getD i2 0) + cr) / 18446744073709551616)] := hD450 15 _ (by decide) rfl (by kernel_rfl)
                   exact DV.oe (dv_move (T rfl hv451)) (by rw [if_neg (by decide)]; exact ⟨rfl, rfl⟩)
                 · intro fr452 w453 hB454 hF455 hD456
                   obtain rfl := hB454 (.inr (by kernel_rfl))
                   have hv457 : fr452 240 = .tuple #[.int .u64 (((R.getD (((J - 1) + (i2))) 0) + (L85.getD i2 0) + cr) % 18446744073709551616), .int .u64 (((R.getD (((J - 1) + (i2))) 0) + (L85.getD i2 0) + cr) / 18446744073709551616)] := hD456 16 _ (by decide) rfl (by kernel_rfl)
                   exact DV.oe (dv_extract (vs := #[.int .u64 (((R.getD (((J - 1) + (i2))) 0) + (L85.getD i2 0) + cr) % 18446744073709551616), .int .u64 (((R.getD (((J - 1) + (i2))) 0) + (L85.getD i2 0) + cr) / 18446744073709551616)]) (T rfl hv457) rfl) (by rw [if_neg (by decide)]; exact ⟨rfl, rfl⟩)
                 · intro fr458 w459 hB460 hF461 hD462
                   have hv463 : fr458 240 = .tuple #[.int .u64 (((R.getD (((J - 1) + (i2))) 0) + (L85.getD i2 0) + cr) % 18446744073709551616), .int .u64 (((R.getD (((J - 1) + (i2))) 0) + (L85.getD i2 0) + cr) / 18446744073709551616)] := hD462 16 _ (by decide) rfl (by kernel_rfl)
                   exact DV.oe (dv_extract (vs := #[.int .u64 (((R.getD (((J - 1) + (i2))) 0) + (L85.getD i2 0) + cr) % 18446744073709551616), .int .u64 (((R.getD (((J - 1) + (i2))) 0) + (L85.getD i2 0) + cr) / 18446744073709551616)]) (T rfl hv463) rfl) (by rw [if_neg (by decide)]; exact ⟨rfl, rfl⟩)
                 · intro fr464 w465 hB466 hF467 hD468
                   obtain rfl := hB466 (.inr (by kernel_rfl))
                   have hv469 : fr464 241 = .slice (some ⟨b96, 0, none⟩) ((xs.length + 1)) ((xs.length + 1)) := hD468 0 _ (by decide) rfl (by kernel_rfl)
                   have hv470 : fr464 244 = .int .i64 (((J : Int) - 1) + ((i2 : Int))) := hD468 3 _ (by decide) rfl (by kernel_rfl)
                   exact DV.oe (dv_indexO (g := b96) (l := (xs.length + 1)) (c := (xs.length + 1)) (i := ((J - 1) + (i2))) (j := ((J : Int) - 1) + ((i2 : Int))) us105 sz36 (T rfl hv469) (T rfl hv470) (by omega) (by first | omega | (simp; done) | (simp; omega))) (by rw [if_neg (by decide)]; exact ⟨rfl, rfl⟩)
                 · intro fr471 w472 hB473 hF474 hD475
                   obtain rfl := hB473 (.inl rfl)
                   have hv476 : fr471 257 = .int .u64 (((R.getD (((J - 1) + (i2))) 0) + (L85.getD i2 0) + cr) % 18446744073709551616) := hD475 17 _ (by decide) rfl (by kernel_rfl)
                   have hv477 : fr471 259 = .pointer (some ⟨b96, (((J - 1) + (i2))), none⟩) := hD475 19 _ (by decide) rfl (by kernel_rfl)
                   have H478 := (d349.ext.blk H344)
                   refine id (oe_storeW (L := R) (i := ((J - 1) + (i2))) (z := ((R.getD (((J - 1) + (i2))) 0) + (L85.getD i2 0) + cr) % 18446744073709551616) sz36 (T rfl hv477) (T rfl hv476) H478 (by first | omega | (simp; done) | (simp; omega)) ?_)
                   intro w479 s480 H481
                   have E482 := below_st E350 N106 s480
                   rw [if_pos rfl]
                   exact ⟨_, d349, s480, H481⟩
                 · intro fr483 w484 hB485 hF486 hD487
                   have hv488 : fr483 258 = .int .u64 (((R.getD (((J - 1) + (i2))) 0) + (L85.getD i2 0) + cr) / 18446744073709551616) := hD487 18 _ (by decide) rfl (by kernel_rfl)
                   exact DV.oe (dv_assign (T rfl hv488)) (by rw [if_neg (by decide)]; exact ⟨rfl, rfl⟩)
               intro fr489 w490 hK491 hF492 hP493
               obtain ⟨w494, d495, s496, H497⟩ := hK491
               have E498 := below_ext E342 E342.size d495.ext
               have H499 := (d495.ext.blk H344)
               have E500 := below_st E498 N106 s496
               obtain ⟨p501, p502, p503, p504, p505, p506, p507, p508, p509, p510, p511, p512, p513, p514, p515, p516, p517, p518, p519, p520, _, p521, _⟩ := hP493
               have hv522 : fr489 241 = .slice (some ⟨b96, 0, none⟩) ((xs.length + 1)) ((xs.length + 1)) := p501.resolve_left (by decide)
               have hv523 : fr489 242 = .int .i64 ((J : Int) - 1) := p502.resolve_left (by decide)
               have hv524 : fr489 243 = .int .i64 ((i2 : Int)) := p503.resolve_left (by decide)
               have hv525 : fr489 244 = .int .i64 (((J : Int) - 1) + ((i2 : Int))) := p504.resolve_left (by decide)
               have hv526 : fr489 245 = .slice (some ⟨b96, 0, none⟩) ((xs.length + 1)) ((xs.length + 1)) := p505.resolve_left (by decide)
               have hv527 : fr489 246 = .int .i64 ((J : Int) - 1) := p506.resolve_left (by decide)
               have hv528 : fr489 247 = .int .i64 ((i2 : Int)) := p507.resolve_left (by decide)
               have hv529 : fr489 248 = .int .i64 (((J : Int) - 1) + ((i2 : Int))) := p508.resolve_left (by decide)
               have hv530 : fr489 249 = .pointer (some ⟨b96, (((J - 1) + (i2))), none⟩) := p509.resolve_left (by decide)
               have hv531 : fr489 250 = .int .u64 (R.getD (((J - 1) + (i2))) 0) := p510.resolve_left (by decide)
               have hv532 : fr489 251 = .slice (some ⟨b84, 0, none⟩) lb ((ys.length + 1)) := p511.resolve_left (by decide)
               have hv533 : fr489 252 = .int .i64 ((i2 : Int)) := p512.resolve_left (by decide)
               have hv534 : fr489 253 = .pointer (some ⟨b84, i2, none⟩) := p513.resolve_left (by decide)
               have hv535 : fr489 254 = .int .u64 (L85.getD i2 0) := p514.resolve_left (by decide)
               have hv536 : fr489 255 = .int .u64 cr := p515.resolve_left (by decide)
               have hv537 : fr489 256 = .tuple #[.int .u64 (((R.getD (((J - 1) + (i2))) 0) + (L85.getD i2 0) + cr) % 18446744073709551616), .int .u64 (((R.getD (((J - 1) + (i2))) 0) + (L85.getD i2 0) + cr) / 18446744073709551616)] := p516.resolve_left (by decide)
               have hv538 : fr489 240 = .tuple #[.int .u64 (((R.getD (((J - 1) + (i2))) 0) + (L85.getD i2 0) + cr) % 18446744073709551616), .int .u64 (((R.getD (((J - 1) + (i2))) 0) + (L85.getD i2 0) + cr) / 18446744073709551616)] := p517.resolve_left (by decide)
               have hv539 : fr489 257 = .int .u64 (((R.getD (((J - 1) + (i2))) 0) + (L85.getD i2 0) + cr) % 18446744073709551616) := p518.resolve_left (by decide)
               have hv540 : fr489 258 = .int .u64 (((R.getD (((J - 1) + (i2))) 0) + (L85.getD i2 0) + cr) / 18446744073709551616) := p519.resolve_left (by decide)
               have hv541 : fr489 259 = .pointer (some ⟨b96, (((J - 1) + (i2))), none⟩) := p520.resolve_left (by decide)
               have hv542 : fr489 26 = .int .u64 (((R.getD (((J - 1) + (i2))) 0) + (L85.getD i2 0) + cr) / 18446744073709551616) := p521.resolve_left (by decide)
               refine rk_inBlock ?_
               refine rk_reg ?_
               refine lw_v (.int .i64 (((i2 : Int)) + 1)) (dv_add (a := (i2 : Int)) (b := 1) (z := ((i2 : Int)) + 1) (T rfl ((hF492 237 rfl).trans f341)) C (wr_i64 (by omega) (by omega))) ?_
               refine lw_v (.int .i64 (((i2 : Int)) + 1)) (dv_move (T rfl rfl)) ?_
               refine lw_nil ?_
               have H543 := (s496.blk (d495.ext.blk H343) (by omega))
               have H544 := (s496.blk (d495.ext.blk H345) (by omega))
               exact ih287 (lb - ((i2 + 1))) _ _ (by rw [hd346]; omega) ⟨(i2 + 1), (R.set (((J - 1) + (i2))) (((R.getD (((J - 1) + (i2))) 0) + (L85.getD i2 0) + cr) % 18446744073709551616)), (((R.getD (((J - 1) + (i2))) 0) + (L85.getD i2 0) + cr) / 18446744073709551616), rfl, ((hF492 4 rfl).trans f290), ((hF492 5 rfl).trans f291), ((hF492 6 rfl).trans f292), ((hF492 10 rfl).trans f293), ((hF492 11 rfl).trans f294), ((hF492 12 rfl).trans f295), ((hF492 13 rfl).trans f296), ((hF492 14 rfl).trans f297), ((hF492 15 rfl).trans f298), ((hF492 20 rfl).trans f299), ((hF492 21 rfl).trans f300), hv542, ((hF492 94 rfl).trans f302), ((hF492 95 rfl).trans f303), ((hF492 98 rfl).trans f304), ((hF492 99 rfl).trans f305), ((hF492 100 rfl).trans f306), ((hF492 101 rfl).trans f307), ((hF492 102 rfl).trans f308), ((hF492 103 rfl).trans f309), ((hF492 104 rfl).trans f310), ((hF492 105 rfl).trans f311), ((hF492 106 rfl).trans f312), ((hF492 107 rfl).trans f313), ((hF492 108 rfl).trans f314), ((hF492 109 rfl).trans f315), ((hF492 175 rfl).trans f316), ((hF492 176 rfl).trans f317), ((hF492 177 rfl).trans f318), ((hF492 215 rfl).trans f319), ((hF492 216 rfl).trans f320), ((hF492 217 rfl).trans f321), ((hF492 218 rfl).trans f322), ((hF492 219 rfl).trans f323), ((hF492 220 rfl).trans f324), ((hF492 221 rfl).trans f325), ((hF492 222 rfl).trans f326), ((hF492 223 rfl).trans f327), ((hF492 224 rfl).trans f328), ((hF492 225 rfl).trans f329), ((hF492 226 rfl).trans f330), ((hF492 227 rfl).trans f331), ((hF492 228 rfl).trans f332), ((hF492 229 rfl).trans f333), ((hF492 230 rfl).trans f334), ((hF492 231 rfl).trans f335), ((hF492 232 rfl).trans f336), ((hF492 233 rfl).trans f337), ((hF492 234 rfl).trans f338), ((hF492 235 rfl).trans f339), ((hF492 236 rfl).trans f340), (vi (by omega)), E500, H543, H497, H544, (by omega), (by simp [hRl]), (okW.set hRo (by omega) (by omega) _), (by omega), (madd_step (by omega) hR (by rw [p64]; exact modsum _)), (fun k hk => by rw [Fw.getD_set_neQ _ _ _ _ (by omega)]; exact hRz k hk)⟩
             · refine rk_cf (T rfl (congrArg Value.bool (decide_eq_false hb347))) ?_
               refine rk_exit rfl ?_
               refine rk_seq ?_
               refine rk_reg ?_
               refine lw_v (.slice (some ⟨b96, 0, none⟩) ((xs.length + 1)) ((xs.length + 1))) (dv_move (T rfl f295)) ?_
               refine lw_v (.int .i64 ((J : Int) - 1)) (dv_move (T rfl f297)) ?_
               refine lw_v (.int .i64 ((lb : Int))) (dv_move (T rfl f292)) ?_
               refine lw_v (.int .i64 (((J : Int) - 1) + ((lb : Int)))) (dv_add (a := (J : Int) - 1) (b := (lb : Int)) (z := ((J : Int) - 1) + ((lb : Int))) (T rfl rfl) (T rfl rfl) (wr_i64 (by omega) (by omega))) ?_
               refine lw_v (.slice (some ⟨b96, 0, none⟩) ((xs.length + 1)) ((xs.length + 1))) (dv_move (T rfl f295)) ?_
               refine lw_v (.int .i64 ((J : Int) - 1)) (dv_move (T rfl f297)) ?_
               refine lw_v (.int .i64 ((lb : Int))) (dv_move (T rfl f292)) ?_
               refine lw_v (.int .i64 (((J : Int) - 1) + ((lb : Int)))) (dv_add (a := (J : Int) - 1) (b := (lb : Int)) (z := ((J : Int) - 1) + ((lb : Int))) (T rfl rfl) (T rfl rfl) (wr_i64 (by omega) (by omega))) ?_
               refine lw_v (.pointer (some ⟨b96, (((J - 1) + (lb))), none⟩)) (dv_indexO (g := b96) (l := (xs.length + 1)) (c := (xs.length + 1)) (i := ((J - 1) + (lb))) (j := ((J : Int) - 1) + ((lb : Int))) us105 sz36 (T rfl rfl) (T rfl rfl) (by omega) (by first | omega | (simp; done) | (simp; omega))) ?_
               refine lw_v (.int .u64 (R.getD (((J - 1) + (lb))) 0)) (dv_loadW (L := R) (v := R.getD (((J - 1) + (lb))) 0) agt36 (T rfl rfl) H344 (by first | omega | (simp; done) | (simp; omega)) rfl) ?_
               refine lw_v (.int .u64 cr) (dv_move (T rfl f301)) ?_
               refine lw_v (.tuple #[.int .u64 (((R.getD (((J - 1) + (lb))) 0) + 0 + cr) % 18446744073709551616), .int .u64 (((R.getD (((J - 1) + (lb))) 0) + 0 + cr) / 18446744073709551616)]) (dv_ext (e := add64Entry) (vs := [.int .u64 (R.getD (((J - 1) + (lb))) 0), .int .u64 0, .int .u64 cr]) Try.func116 rfl rfl (by kernel_rfl) (by kernel_rfl) (ar3 (T rfl rfl) C (T rfl rfl)) (run_addE (R.getD (((J - 1) + (lb))) 0) 0 cr (by omega) (by omega) (by omega))) ?_
               refine lw_v (.tuple #[.int .u64 (((R.getD (((J - 1) + (lb))) 0) + 0 + cr) % 18446744073709551616), .int .u64 (((R.getD (((J - 1) + (lb))) 0) + 0 + cr) / 18446744073709551616)]) (dv_move (T rfl rfl)) ?_
               refine lw_v (.int .u64 (((R.getD (((J - 1) + (lb))) 0) + 0 + cr) % 18446744073709551616)) (dv_extract (vs := #[.int .u64 (((R.getD (((J - 1) + (lb))) 0) + 0 + cr) % 18446744073709551616), .int .u64 (((R.getD (((J - 1) + (lb))) 0) + 0 + cr) / 18446744073709551616)]) (T rfl rfl) rfl) ?_
               refine lw_v (.int .u64 (((R.getD (((J - 1) + (lb))) 0) + 0 + cr) / 18446744073709551616)) (dv_extract (vs := #[.int .u64 (((R.getD (((J - 1) + (lb))) 0) + 0 + cr) % 18446744073709551616), .int .u64 (((R.getD (((J - 1) + (lb))) 0) + 0 + cr) / 18446744073709551616)]) (T rfl rfl) rfl) ?_
               refine lw_v (.pointer (some ⟨b96, (((J - 1) + (lb))), none⟩)) (dv_indexO (g := b96) (l := (xs.length + 1)) (c := (xs.length + 1)) (i := ((J - 1) + (lb))) (j := ((J : Int) - 1) + ((lb : Int))) us105 sz36 (T rfl rfl) (T rfl rfl) (by omega) (by first | omega | (simp; done) | (simp; omega))) ?_
               refine lw_e (oe_storeW (L := R) (i := ((J - 1) + (lb))) (z := ((R.getD (((J - 1) + (lb))) 0) + 0 + cr) % 18446744073709551616) sz36 (T rfl rfl) (T rfl rfl) H344 (by first | omega | (simp; done) | (simp; omega)) ?_)
               intro w545 s546 H547
               have E548 := below_st E342 N106 s546
               refine lw_v (.int .u64 (((R.getD (((J - 1) + (lb))) 0) + 0 + cr) / 18446744073709551616)) (dv_assign (T rfl rfl)) ?_
               refine lw_nil ?_
               refine rk_reg ?_
               refine lw_v (.int .u64 bb) (dv_move (T rfl f299)) ?_
               refine lw_v (.int .u64 (((R.getD (((J - 1) + (lb))) 0) + 0 + cr) / 18446744073709551616)) (dv_move (T rfl rfl)) ?_
               refine lw_v (.int .u64 (bb - (((R.getD (((J - 1) + (lb))) 0) + 0 + cr) / 18446744073709551616))) (dv_sub (a := bb) (b := ((R.getD (((J - 1) + (lb))) 0) + 0 + cr) / 18446744073709551616) (z := bb - (((R.getD (((J - 1) + (lb))) 0) + 0 + cr) / 18446744073709551616)) (T rfl rfl) (T rfl rfl) (wn_u64 (by omega) (by omega))) ?_
               refine lw_v (.int .u64 (bb - (((R.getD (((J - 1) + (lb))) 0) + 0 + cr) / 18446744073709551616))) (dv_assign (T rfl rfl)) ?_
               refine lw_nil ?_
               refine rk_inBlock ?_
               have H549 := (s546.blk H343 (by omega))
               have H550 := (s546.blk H345 (by omega))
               exact ih231 (((qq - 1)).toNat) _ _ (by rw [hd283]; omega) ⟨(qq - 1), (R.set (((J - 1) + (lb))) (((R.getD (((J - 1) + (lb))) 0) + 0 + cr) % 18446744073709551616)), (bb - (((R.getD (((J - 1) + (lb))) 0) + 0 + cr) / 18446744073709551616)), rfl, f290, f291, f292, f293, f294, f295, f296, f297, f298, rfl, f300, f302, f303, f304, f305, f306, f307, f308, f309, f310, f311, f312, f313, f314, f315, f316, f317, f318, f319, f320, f321, f322, f323, f324, f325, f326, f327, f328, f329, f330, f331, f332, f333, f334, f335, E548, H549, H547, H550, (by omega), (by simp [hRl]), (okW.set hRo (by omega) (by omega) _), (by omega), (by have h := hR; rw [show i2 = lb by omega, hVt] at h; have h2 := back_step (by rw [show bb = 1 by omega] at hP; exact hP) (madd_top (by omega) h (by rw [p64]; exact modsum _)); rw [h2]; congr 2; omega), (fun k hk => by rw [Fw.getD_set_neQ _ _ _ _ (by omega)]; exact hRz k hk), (by rw [show qq - 1 + 1 = qq by omega]; exact hneg)⟩
           · refine rk_cf (T rfl (congrArg Value.bool (decide_eq_false hb284))) ?_
             refine rk_exit rfl ?_
             refine rk_reg ?_
             refine lw_v (.slice (some ⟨b107, 0, none⟩) ((((la) - (lb)) + 1)) ((((la) - (lb)) + 1))) (dv_move (T rfl f240)) ?_
             refine lw_v (.int .i64 ((J : Int) - 1)) (dv_move (T rfl f241)) ?_
             refine lw_v (.int .u64 qq) (dv_move (T rfl f242)) ?_
             refine lw_v (.pointer (some ⟨b107, ((J - 1)), none⟩)) (dv_indexO (g := b107) (l := (((la) - (lb)) + 1)) (c := (((la) - (lb)) + 1)) (i := (J - 1)) (j := (J : Int) - 1) us105 sz36 (T rfl rfl) (T rfl rfl) (by omega) (by first | omega | (simp; done) | (simp; omega))) ?_
             refine lw_e (oe_storeW (L := O) (i := (J - 1)) (z := qq) sz36 (T rfl rfl) (T rfl rfl) H282 (by first | omega | (simp; done) | (simp; omega)) ?_)
             intro w551 s552 H553
             have E554 := below_st E279 N110 s552
             refine lw_nil ?_
             refine rk_inBlock ?_
             refine rk_reg ?_
             refine lw_v (.int .i64 ((J : Int) - 1)) (dv_move (T rfl f241)) ?_
             refine lw_v (.int .i64 (((J : Int) - 1) - 1)) (dv_sub (a := (J : Int) - 1) (b := 1) (z := ((J : Int) - 1) - 1) (T rfl rfl) C (wr_i64 (by omega) (by omega))) ?_
             refine lw_v (.int .i64 (((J : Int) - 1) - 1)) (dv_assign (T rfl rfl)) ?_
             refine lw_nil ?_
             have hbb0 : bb = 0 := by omega
             rw [hbb0] at hP
             have hfd := digit_found (j := J - 1) (by omega) (hO0 _ (by omega)) hP hV hgq
             have H555 := (s552.blk H280 (by omega))
             have H556 := (s552.blk H281 (by omega))
             exact ih116 (((J - 1))) _ _ (by rw [hd131]; omega) ⟨(J - 1), P, (O.set ((J - 1)) qq), rfl, f234, f235, f236, f237, f238, f239, f240, (vi (by omega)), E554, H555, H556, H553, (by omega), hPl, (by simp [hOl]), hPo, (okW.set hOo hqq.1 (by omega) _), (fun k hk => by rw [Fw.getD_set_neQ _ _ _ _ (by omega)]; exact hO0 k (by omega)), hfd.1, hfd.2⟩
       · by_cases hb557 : (U.getD (((J - 1) + (lb))) 0) < (L85.getD (((lb) - 1)) 0)
         · refine rk_ct (T rfl (congrArg Value.bool (decide_eq_true hb557))) ?_
           refine rk_seq ?_
           refine rk_reg ?_
           refine lw_v (.int .u64 0) (dv_assign C) ?_
           refine lw_nil ?_
           refine rk_seq ?_
           refine rk_any (fun w => w.heap[b96]? = some (.cells (U.map (Value.int .u64)).toArray 36) ∧ w.heap[b84]? = some (.cells (L85.map (Value.int .u64)).toArray 36)) [23] mo ?_
           intro w558 d559
           have E560 := below_ext E140 E140.size d559.ext
           have H561 := (d559.ext.blk H141)
           have H562 := (d559.ext.blk H142)
           refine aw_pure 0 (.slice (some ⟨b96, 0, none⟩) ((xs.length + 1)) ((xs.length + 1))) rfl (by kernel_rfl) .none ⟨H561, H562⟩ (fun _ => dv_move (T rfl f124)) ?_
           refine aw_pure 1 (.int .i64 ((J : Int) - 1)) rfl (by kernel_rfl) .none ⟨H561, H562⟩ (fun _ => dv_move (T rfl f126)) ?_
           refine aw_pure 2 (.int .i64 ((lb : Int))) rfl (by kernel_rfl) .none ⟨H561, H562⟩ (fun _ => dv_move (T rfl f121)) ?_
           refine aw_pure 3 (.int .i64 (((J : Int) - 1) + ((lb : Int)))) rfl (by kernel_rfl) .none ⟨H561, H562⟩ (fun _ => dv_add (a := (J : Int) - 1) (b := (lb : Int)) (z := ((J : Int) - 1) + ((lb : Int))) (T rfl rfl) (T rfl rfl) (wr_i64 (by omega) (by omega))) ?_
           refine aw_pure 4 (.pointer (some ⟨b96, (((J - 1) + (lb))), none⟩)) rfl (by kernel_rfl) .none ⟨H561, H562⟩ (fun _ => dv_indexO (g := b96) (l := (xs.length + 1)) (c := (xs.length + 1)) (i := ((J - 1) + (lb))) (j := ((J : Int) - 1) + ((lb : Int))) us105 sz36 (T rfl rfl) (T rfl rfl) (by omega) (by first | omega | (simp; done) | (simp; omega))) ?_
           refine aw_load 5 (.int .u64 (U.getD (((J - 1) + (lb))) 0)) rfl (by kernel_rfl) .none ⟨H561, H562⟩ (fun _ s => dv_loadW (L := U) (v := U.getD (((J - 1) + (lb))) 0) agt36 (T rfl rfl) s.1 (by first | omega | (simp; done) | (simp; omega)) rfl) ?_
           refine aw_pure 6 (.slice (some ⟨b96, 0, none⟩) ((xs.length + 1)) ((xs.length + 1))) rfl (by kernel_rfl) .none ⟨H561, H562⟩ (fun _ => dv_move (T rfl f124)) ?_
           refine aw_pure 7 (.int .i64 ((J : Int) - 1)) rfl (by kernel_rfl) .none ⟨H561, H562⟩ (fun _ => dv_move (T rfl f126)) ?_
           refine aw_pure 8 (.int .i64 ((lb : Int))) rfl (by kernel_rfl) .none ⟨H561, H562⟩ (fun _ => dv_move (T rfl f121)) ?_
           refine aw_pure 9 (.int .i64 (((J : Int) - 1) + ((lb : Int)))) rfl (by kernel_rfl) .none ⟨H561, H562⟩ (fun _ => dv_add (a := (J : Int) - 1) (b := (lb : Int)) (z := ((J : Int) - 1) + ((lb : Int))) (T rfl rfl) (T rfl rfl) (wr_i64 (by omega) (by omega))) ?_
           refine aw_pure 10 (.int .i64 ((((J : Int) - 1) + ((lb : Int))) - 1)) rfl (by kernel_rfl) .none ⟨H561, H562⟩ (fun _ => dv_sub (a := ((J : Int) - 1) + ((lb : Int))) (b := 1) (z := (((J : Int) - 1) + ((lb : Int))) - 1) (T rfl rfl) C (wr_i64 (by omega) (by omega))) ?_
           refine aw_pure 11 (.pointer (some ⟨b96, ((((J - 1) + (lb)) - 1)), none⟩)) rfl (by kernel_rfl) .none ⟨H561, H562⟩ (fun _ => dv_indexO (g := b96) (l := (xs.length + 1)) (c := (xs.length + 1)) (i := (((J - 1) + (lb)) - 1)) (j := (((J : Int) - 1) + ((lb : Int))) - 1) us105 sz36 (T rfl rfl) (T rfl rfl) (by omega) (by first | omega | (simp; done) | (simp; omega))) ?_
           refine aw_load 12 (.int .u64 (U.getD ((((J - 1) + (lb)) - 1)) 0)) rfl (by kernel_rfl) .none ⟨H561, H562⟩ (fun _ s => dv_loadW (L := U) (v := U.getD ((((J - 1) + (lb)) - 1)) 0) agt36 (T rfl rfl) s.1 (by first | omega | (simp; done) | (simp; omega)) rfl) ?_
           refine aw_pure 13 (.slice (some ⟨b84, 0, none⟩) lb ((ys.length + 1))) rfl (by kernel_rfl) .none ⟨H561, H562⟩ (fun _ => dv_move (T rfl f123)) ?_
           refine aw_pure 14 (.int .i64 ((lb : Int))) rfl (by kernel_rfl) .none ⟨H561, H562⟩ (fun _ => dv_move (T rfl f121)) ?_
           refine aw_pure 15 (.int .i64 (((lb : Int)) - 1)) rfl (by kernel_rfl) .none ⟨H561, H562⟩ (fun _ => dv_sub (a := (lb : Int)) (b := 1) (z := ((lb : Int)) - 1) (T rfl rfl) C (wr_i64 (by omega) (by omega))) ?_
           refine aw_pure 16 (.pointer (some ⟨b84, (((lb) - 1)), none⟩)) rfl (by kernel_rfl) .none ⟨H561, H562⟩ (fun _ => dv_indexO (g := b84) (l := lb) (c := (ys.length + 1)) (i := ((lb) - 1)) (j := ((lb : Int)) - 1) us105 sz36 (T rfl rfl) (T rfl rfl) (by omega) (by first | omega | (simp; done) | (simp; omega))) ?_
           refine aw_load 17 (.int .u64 (L85.getD (((lb) - 1)) 0)) rfl (by kernel_rfl) .none ⟨H561, H562⟩ (fun _ s => dv_loadW (L := L85) (v := L85.getD (((lb) - 1)) 0) agt36 (T rfl rfl) s.2 (by first | omega | (simp; done) | (simp; omega)) rfl) ?_
           refine aw_one 18 rfl (by kernel_rfl) .none (oe_callf (vs := [.int .u64 (U.getD (((J - 1) + (lb))) 0), .int .u64 (U.getD ((((J - 1) + (lb)) - 1)) 0), .int .u64 (L85.getD (((lb) - 1)) 0)]) co147 (ar3 (T rfl rfl) (T rfl rfl) (T rfl rfl)) (div64_q (hi := U.getD (((J - 1) + (lb))) 0) (lo := U.getD ((((J - 1) + (lb)) - 1)) 0) (y := L85.getD (((lb) - 1)) 0) (by omega) (by omega) (by omega) (by omega)) ?_)
           rintro _ w566 ⟨qd563, rd564, rfl, e567, hd565⟩
           have E568 := below_ext E560 E560.size e567
           obtain ⟨hd565a, hd565b, hd565c, hd565d⟩ := hd565
           have H569 := (e567.blk H561)
           have H570 := (e567.blk H562)
           refine ⟨.inr ⟨H569, H570⟩, ?_⟩
           refine aw_pure 19 (.tuple #[.int .u64 qd563, .int .u64 rd564]) rfl (by kernel_rfl) .none ⟨H569, H570⟩ (fun _ => dv_move (T rfl rfl)) ?_
           refine aw_pure 20 (.int .u64 qd563) rfl (by kernel_rfl) .none ⟨H569, H570⟩ (fun _ => dv_extract (vs := #[.int .u64 qd563, .int .u64 rd564]) (T rfl rfl) rfl) ?_
           refine aw_pure 21 (.int .u64 rd564) rfl (by kernel_rfl) .none ⟨H569, H570⟩ (fun _ => dv_extract (vs := #[.int .u64 qd563, .int .u64 rd564]) (T rfl rfl) rfl) ?_
           refine aw_pure 22 (.int .u64 qd563) rfl (by kernel_rfl) .none ⟨H569, H570⟩ (fun _ => dv_assign (T rfl rfl)) ?_
           refine aw_last 23 (.int .u64 rd564) rfl (by kernel_rfl) .none (fun _ => dv_assign (T rfl rfl)) ?_
           refine aw_done (by kernel_rfl) ?_
           refine rk_block ?_
           have H571 := (e567.blk (d559.ext.blk (d139.ext.blk H130)))
           refine rk_loop (fun dm_ fr wl => ∃ (qc rc : Int), dm_ = qc.toNat ∧ fr 4 = .slice none 0 0 ∧ fr 5 = .slice none 0 0 ∧ fr 6 = .int .i64 ((lb : Int)) ∧ fr 10 = .int .i64 ((S73 : Int)) ∧ fr 11 = .slice (some ⟨b84, 0, none⟩) lb ((ys.length + 1)) ∧ fr 12 = .slice (some ⟨b96, 0, none⟩) ((xs.length + 1)) ((xs.length + 1)) ∧ fr 13 = .slice (some ⟨b107, 0, none⟩) ((((la) - (lb)) + 1)) ((((la) - (lb)) + 1)) ∧ fr 14 = .int .i64 ((J : Int) - 1) ∧ fr 15 = .int .u64 qc ∧ fr 16 = .int .u64 rc ∧ fr 94 = .int .i64 ((J : Int) - 1) ∧ fr 95 = .bool (decide (0 ≤ ((J : Int) - 1))) ∧ fr 98 = .slice (some ⟨b96, 0, none⟩) ((xs.length + 1)) ((xs.length + 1)) ∧ fr 99 = .int .i64 ((J : Int) - 1) ∧ fr 100 = .int .i64 ((lb : Int)) ∧ fr 101 = .int .i64 (((J : Int) - 1) + ((lb : Int))) ∧ fr 102 = .pointer (some ⟨b96, (((J - 1) + (lb))), none⟩) ∧ fr 103 = .int .u64 (U.getD (((J - 1) + (lb))) 0) ∧ fr 104 = .slice (some ⟨b84, 0, none⟩) lb ((ys.length + 1)) ∧ fr 105 = .int .i64 ((lb : Int)) ∧ fr 106 = .int .i64 (((lb : Int)) - 1) ∧ fr 107 = .pointer (some ⟨b84, (((lb) - 1)), none⟩) ∧ fr 108 = .int .u64 (L85.getD (((lb) - 1)) 0) ∧ fr 109 = .bool (decide ((U.getD (((J - 1) + (lb))) 0) < (L85.getD (((lb) - 1)) 0))) ∧ Below w.heap.size w wl ∧ wl.heap[b84]? = some (.cells (L85.map (Value.int .u64)).toArray 36) ∧ wl.heap[b96]? = some (.cells (U.map (Value.int .u64)).toArray 36) ∧ wl.heap[b107]? = some (.cells (O.map (Value.int .u64)).toArray 36) ∧ (qc * L85.getD (lb - 1) 0 + rc = U.getD (J - 1 + lb) 0 * 18446744073709551616 + U.getD (J - 1 + lb - 1) 0) ∧ (0 ≤ qc ∧ qc < 18446744073709551616) ∧ (0 ≤ rc ∧ rc < 18446744073709551616) ∧ (valB (2 ^ 64) U < (qc + 1) * valB (2 ^ 64) L85 * (2 ^ 64) ^ (J - 1))) (qd563.toNat) ⟨qd563, rd564, rfl, f119, f120, f121, f122, f123, f124, f125, f126, rfl, rfl, rfl, rfl, rfl, rfl, rfl, rfl, rfl, rfl, rfl, rfl, rfl, rfl, rfl, rfl, E568, H570, H569, H571, (by omega), (by omega), (by omega), (guess64 (n := lb) hUo ho89 hVz hlb2 (by omega) (by omega) (by omega) hlt hd565a (by omega) (by omega))⟩ ?_
           intro d576 fr575 w572 hI573 ih574
           obtain ⟨qc, rc, hd605, f577, f578, f579, f580, f581, f582, f583, f584, f585, f586, f587, f588, f589, f590, f591, f592, f593, f594, f595, f596, f597, f598, f599, f600, E601, H602, H603, H604, hqc, hq0, hr0, hgc⟩ := hI573
           refine rk_block ?_
           refine rk_seq ?_
           refine rk_reg ?_
           refine lw_v (.int .u64 qc) (dv_move (T rfl f585)) ?_
           refine lw_v (.slice (some ⟨b84, 0, none⟩) lb ((ys.length + 1))) (dv_move (T rfl f581)) ?_
           refine lw_v (.int .i64 ((lb : Int))) (dv_move (T rfl f579)) ?_
           refine lw_v (.int .i64 (((lb : Int)) - 2)) (dv_sub (a := (lb : Int)) (b := 2) (z := ((lb : Int)) - 2) (T rfl rfl) C (wr_i64 (by omega) (by omega))) ?_
           refine lw_v (.pointer (some ⟨b84, (((lb) - 2)), none⟩)) (dv_indexO (g := b84) (l := lb) (c := (ys.length + 1)) (i := ((lb) - 2)) (j := ((lb : Int)) - 2) us105 sz36 (T rfl rfl) (T rfl rfl) (by omega) (by first | omega | (simp; done) | (simp; omega))) ?_
           refine lw_v (.int .u64 (L85.getD (((lb) - 2)) 0)) (dv_loadW (L := L85) (v := L85.getD (((lb) - 2)) 0) agt36 (T rfl rfl) H602 (by first | omega | (simp; done) | (simp; omega)) rfl) ?_
           have hm606 := mul_pos_bd (A := 18446744073709551615) (show 0 ≤ qc by omega) (by omega) (show 0 ≤ L85.getD (((lb) - 2)) 0 by omega) (by omega)
           refine lw_e (oe_callf (vs := [.int .u64 qc, .int .u64 (L85.getD (((lb) - 2)) 0)]) co115 (ar2 (T rfl rfl) (T rfl rfl)) (mul64_ok (by omega) (by omega)) ?_)
           rintro _ w607 ⟨rfl, e608⟩
           have E609 := below_ext E601 E601.size e608
           refine lw_v (.tuple #[.int .u64 (qc * (L85.getD (((lb) - 2)) 0) / 18446744073709551616), .int .u64 (qc * (L85.getD (((lb) - 2)) 0) % 18446744073709551616)]) (dv_move (T rfl rfl)) ?_
           refine lw_v (.int .u64 (qc * (L85.getD (((lb) - 2)) 0) / 18446744073709551616)) (dv_extract (vs := #[.int .u64 (qc * (L85.getD (((lb) - 2)) 0) / 18446744073709551616), .int .u64 (qc * (L85.getD (((lb) - 2)) 0) % 18446744073709551616)]) (T rfl rfl) rfl) ?_
           refine lw_v (.int .u64 (qc * (L85.getD (((lb) - 2)) 0) % 18446744073709551616)) (dv_extract (vs := #[.int .u64 (qc * (L85.getD (((lb) - 2)) 0) / 18446744073709551616), .int .u64 (qc * (L85.getD (((lb) - 2)) 0) % 18446744073709551616)]) (T rfl rfl) rfl) ?_
           refine lw_v (.int .u64 (qc * (L85.getD (((lb) - 2)) 0) / 18446744073709551616)) (dv_assign (T rfl rfl)) ?_
           refine lw_v (.int .u64 (qc * (L85.getD (((lb) - 2)) 0) % 18446744073709551616)) (dv_assign (T rfl rfl)) ?_
           refine lw_nil ?_
           refine rk_seq ?_
           refine rk_seq ?_
           refine rk_reg ?_
           refine lw_v (.int .u64 (qc * (L85.getD (((lb) - 2)) 0) / 18446744073709551616)) (dv_move (T rfl rfl)) ?_
           refine lw_v (.int .u64 rc) (dv_move (T rfl f586)) ?_
           refine lw_v (.bool (decide ((qc * (L85.getD (((lb) - 2)) 0) / 18446744073709551616) < rc))) (dv_lss (a := qc * (L85.getD (((lb) - 2)) 0) / 18446744073709551616) (b := rc) (T rfl rfl) (T rfl rfl)) ?_
           refine lw_v (.bool (decide ((qc * (L85.getD (((lb) - 2)) 0) / 18446744073709551616) < rc))) (dv_move (T rfl rfl)) ?_
           by_cases hb610 : (qc * (L85.getD (((lb) - 2)) 0) / 18446744073709551616) < rc
           · refine lw_no (d := 145) rfl rfl (congrArg Value.bool (decide_eq_true hb610)) ?_
             refine lw_no (d := 145) rfl rfl (congrArg Value.bool (decide_eq_true hb610)) ?_
             refine lw_no (d := 145) rfl rfl (congrArg Value.bool (decide_eq_true hb610)) ?_
             refine lw_no (d := 145) rfl rfl (congrArg Value.bool (decide_eq_true hb610)) ?_
             refine lw_nou (d := 149) rfl rfl ?_
             refine lw_nou (d := 149) rfl rfl ?_
             refine lw_nou (d := 149) rfl rfl ?_
             refine lw_nou (d := 149) rfl rfl ?_
             refine lw_nou (d := 149) rfl rfl ?_
             refine lw_nou (d := 149) rfl rfl ?_
             refine lw_nou (d := 149) rfl rfl ?_
             refine lw_nou (d := 149) rfl rfl ?_
             refine lw_nou (d := 149) rfl rfl ?_
             refine lw_no (d := 145) rfl rfl (congrArg Value.bool (decide_eq_true hb610)) ?_
             refine lw_v (.bool true) (dv_pick_t (T rfl (congrArg Value.bool (decide_eq_true hb610))) C) ?_
             refine lw_nil ?_
             refine rk_ct (T rfl rfl) ?_
             refine rk_exit rfl ?_
             have H611 := (e608.blk H602)
             have H612 := (e608.blk H603)
             have H613 := (e608.blk H604)
             exact hj145 _ _ ⟨qc, f577, f578, f579, f580, f581, f582, f583, f584, f585, f587, f588, f589, f590, f591, f592, f593, f594, f595, f596, f597, f598, f599, f600, E609, H611, H612, H613, hq0, hgc⟩
           · refine lw_vy (.int .u64 (qc * (L85.getD (((lb) - 2)) 0) / 18446744073709551616)) (d := 145) rfl rfl (congrArg Value.bool (decide_eq_false hb610)) (dv_move (T rfl rfl)) ?_
             refine lw_vy (.int .u64 rc) (d := 145) rfl rfl (congrArg Value.bool (decide_eq_false hb610)) (dv_move (T rfl f586)) ?_
             refine lw_vy (.bool (decide ((qc * (L85.getD (((lb) - 2)) 0) / 18446744073709551616) = rc))) (d := 145) rfl rfl (congrArg Value.bool (decide_eq_false hb610)) (dv_eql (a := qc * (L85.getD (((lb) - 2)) 0) / 18446744073709551616) (b := rc) (T rfl rfl) (T rfl rfl)) ?_
             refine lw_vy (.bool (decide ((qc * (L85.getD (((lb) - 2)) 0) / 18446744073709551616) = rc))) (d := 145) rfl rfl (congrArg Value.bool (decide_eq_false hb610)) (dv_move (T rfl rfl)) ?_
             by_cases hb614 : (qc * (L85.getD (((lb) - 2)) 0) / 18446744073709551616) = rc
             · refine lw_vy (.int .u64 (qc * (L85.getD (((lb) - 2)) 0) % 18446744073709551616)) (d := 149) rfl rfl (congrArg Value.bool (decide_eq_true hb614)) (dv_move (T rfl rfl)) ?_
               refine lw_vy (.slice (some ⟨b96, 0, none⟩) ((xs.length + 1)) ((xs.length + 1))) (d := 149) rfl rfl (congrArg Value.bool (decide_eq_true hb614)) (dv_move (T rfl f582)) ?_
               refine lw_vy (.int .i64 ((J : Int) - 1)) (d := 149) rfl rfl (congrArg Value.bool (decide_eq_true hb614)) (dv_move (T rfl f584)) ?_
               refine lw_vy (.int .i64 ((lb : Int))) (d := 149) rfl rfl (congrArg Value.bool (decide_eq_true hb614)) (dv_move (T rfl f579)) ?_
               refine lw_vy (.int .i64 (((J : Int) - 1) + ((lb : Int)))) (d := 149) rfl rfl (congrArg Value.bool (decide_eq_true hb614)) (dv_add (a := (J : Int) - 1) (b := (lb : Int)) (z := ((J : Int) - 1) + ((lb : Int))) (T rfl rfl) (T rfl rfl) (wr_i64 (by omega) (by omega))) ?_
               refine lw_vy (.int .i64 ((((J : Int) - 1) + ((lb : Int))) - 2)) (d := 149) rfl rfl (congrArg Value.bool (decide_eq_true hb614)) (dv_sub (a := ((J : Int) - 1) + ((lb : Int))) (b := 2) (z := (((J : Int) - 1) + ((lb : Int))) - 2) (T rfl rfl) C (wr_i64 (by omega) (by omega))) ?_
               refine lw_vy (.pointer (some ⟨b96, ((((J - 1) + (lb)) - 2)), none⟩)) (d := 149) rfl rfl (congrArg Value.bool (decide_eq_true hb614)) (dv_indexO (g := b96) (l := (xs.length + 1)) (c := (xs.length + 1)) (i := (((J - 1) + (lb)) - 2)) (j := (((J : Int) - 1) + ((lb : Int))) - 2) us105 sz36 (T rfl rfl) (T rfl rfl) (by omega) (by first | omega | (simp; done) | (simp; omega))) ?_
               have H615 := (e608.blk H603)
               refine lw_vy (.int .u64 (U.getD ((((J - 1) + (lb)) - 2)) 0)) (d := 149) rfl rfl (congrArg Value.bool (decide_eq_true hb614)) (dv_loadW (L := U) (v := U.getD ((((J - 1) + (lb)) - 2)) 0) agt36 (T rfl rfl) H615 (by first | omega | (simp; done) | (simp; omega)) rfl) ?_
               refine lw_vy (.bool (decide ((qc * (L85.getD (((lb) - 2)) 0) % 18446744073709551616) ≤ (U.getD ((((J - 1) + (lb)) - 2)) 0)))) (d := 149) rfl rfl (congrArg Value.bool (decide_eq_true hb614)) (dv_leq (a := qc * (L85.getD (((lb) - 2)) 0) % 18446744073709551616) (b := U.getD ((((J - 1) + (lb)) - 2)) 0) (T rfl rfl) (T rfl rfl)) ?_
               refine lw_vy (.bool (decide ((qc * (L85.getD (((lb) - 2)) 0) % 18446744073709551616) ≤ (U.getD ((((J - 1) + (lb)) - 2)) 0)))) (d := 145) rfl rfl (congrArg Value.bool (decide_eq_false hb610)) (dv_pick_t (T rfl (congrArg Value.bool (decide_eq_true hb614))) (T rfl rfl)) ?_
               refine lw_v (.bool (decide ((qc * (L85.getD (((lb) - 2)) 0) % 18446744073709551616) ≤ (U.getD ((((J - 1) + (lb)) - 2)) 0)))) (dv_pick_f (T rfl (congrArg Value.bool (decide_eq_false hb610))) (T rfl rfl)) ?_
               refine lw_nil ?_
               by_cases hb616 : (qc * (L85.getD (((lb) - 2)) 0) % 18446744073709551616) ≤ (U.getD ((((J - 1) + (lb)) - 2)) 0)
               · refine rk_ct (T rfl (congrArg Value.bool (decide_eq_true hb616))) ?_
                 refine rk_exit rfl ?_
                 have H617 := (e608.blk H602)
                 have H618 := (e608.blk H604)
                 exact hj145 _ _ ⟨qc, f577, f578, f579, f580, f581, f582, f583, f584, f585, f587, f588, f589, f590, f591, f592, f593, f594, f595, f596, f597, f598, f599, f600, E609, H617, H615, H618, hq0, hgc⟩
               · refine rk_cf (T rfl (congrArg Value.bool (decide_eq_false hb616))) ?_
                 refine rk_skip ?_
                 refine rk_seq ?_
                 have hgt619 : rc * 18446744073709551616 + U.getD (J - 1 + lb - 2) 0 < qc * L85.getD (lb - 2) 0 := by omega
                 have hqc1 : 1 ≤ qc := pos_of_mul hq0.1 (okW.getD ho89 (by decide) (lb - 2)).1 (by omega) hgt619
                 refine rk_reg ?_
                 refine lw_v (.int .u64 qc) (dv_move (T rfl f585)) ?_
                 refine lw_v (.int .u64 (qc - 1)) (dv_sub (a := qc) (b := 1) (z := qc - 1) (T rfl rfl) C (wn_u64 (by omega) (by omega))) ?_
                 refine lw_v (.int .u64 (qc - 1)) (dv_assign (T rfl rfl)) ?_
                 refine lw_nil ?_
                 refine rk_seq ?_
                 refine rk_reg ?_
                 refine lw_v (.int .u64 0) (dv_assign C) ?_
                 refine lw_nil ?_
                 refine rk_seq ?_
                 refine rk_reg ?_
                 refine lw_v (.int .u64 rc) (dv_move (T rfl f586)) ?_
                 refine lw_v (.slice (some ⟨b84, 0, none⟩) lb ((ys.length + 1))) (dv_move (T rfl f581)) ?_
                 refine lw_v (.int .i64 ((lb : Int))) (dv_move (T rfl f579)) ?_
                 refine lw_v (.int .i64 (((lb : Int)) - 1)) (dv_sub (a := (lb : Int)) (b := 1) (z := ((lb : Int)) - 1) (T rfl rfl) C (wr_i64 (by omega) (by omega))) ?_
                 refine lw_v (.pointer (some ⟨b84, (((lb) - 1)), none⟩)) (dv_indexO (g := b84) (l := lb) (c := (ys.length + 1)) (i := ((lb) - 1)) (j := ((lb : Int)) - 1) us105 sz36 (T rfl rfl) (T rfl rfl) (by omega) (by first | omega | (simp; done) | (simp; omega))) ?_
                 have H620 := (e608.blk H602)
                 refine lw_v (.int .u64 (L85.getD (((lb) - 1)) 0)) (dv_loadW (L := L85) (v := L85.getD (((lb) - 1)) 0) agt36 (T rfl rfl) H620 (by first | omega | (simp; done) | (simp; omega)) rfl) ?_
                 refine lw_v (.tuple #[.int .u64 ((rc + (L85.getD (((lb) - 1)) 0) + 0) % 18446744073709551616), .int .u64 ((rc + (L85.getD (((lb) - 1)) 0) + 0) / 18446744073709551616)]) (dv_ext (e := add64Entry) (vs := [.int .u64 rc, .int .u64 (L85.getD (((lb) - 1)) 0), .int .u64 0]) Try.func116 rfl rfl (by kernel_rfl) (by kernel_rfl) (ar3 (T rfl rfl) (T rfl rfl) C) (run_addE rc (L85.getD (((lb) - 1)) 0) 0 (by omega) (by omega) (by omega))) ?_
                 refine lw_v (.tuple #[.int .u64 ((rc + (L85.getD (((lb) - 1)) 0) + 0) % 18446744073709551616), .int .u64 ((rc + (L85.getD (((lb) - 1)) 0) + 0) / 18446744073709551616)]) (dv_move (T rfl rfl)) ?_
                 refine lw_v (.int .u64 ((rc + (L85.getD (((lb) - 1)) 0) + 0) % 18446744073709551616)) (dv_extract (vs := #[.int .u64 ((rc + (L85.getD (((lb) - 1)) 0) + 0) % 18446744073709551616), .int .u64 ((rc + (L85.getD (((lb) - 1)) 0) + 0) / 18446744073709551616)]) (T rfl rfl) rfl) ?_
                 refine lw_v (.int .u64 ((rc + (L85.getD (((lb) - 1)) 0) + 0) / 18446744073709551616)) (dv_extract (vs := #[.int .u64 ((rc + (L85.getD (((lb) - 1)) 0) + 0) % 18446744073709551616), .int .u64 ((rc + (L85.getD (((lb) - 1)) 0) + 0) / 18446744073709551616)]) (T rfl rfl) rfl) ?_
                 refine lw_v (.int .u64 ((rc + (L85.getD (((lb) - 1)) 0) + 0) % 18446744073709551616)) (dv_assign (T rfl rfl)) ?_
                 refine lw_v (.int .u64 ((rc + (L85.getD (((lb) - 1)) 0) + 0) / 18446744073709551616)) (dv_assign (T rfl rfl)) ?_
                 refine lw_nil ?_
                 refine rk_seq ?_
                 refine rk_reg ?_
                 refine lw_v (.int .u64 ((rc + (L85.getD (((lb) - 1)) 0) + 0) / 18446744073709551616)) (dv_move (T rfl rfl)) ?_
                 refine lw_v (.bool (decide (((rc + (L85.getD (((lb) - 1)) 0) + 0) / 18446744073709551616) = 1))) (dv_eql (a := (rc + (L85.getD (((lb) - 1)) 0) + 0) / 18446744073709551616) (b := 1) (T rfl rfl) C) ?_
                 refine lw_nil ?_
                 by_cases hb621 : ((rc + (L85.getD (((lb) - 1)) 0) + 0) / 18446744073709551616) = 1
                 · refine rk_ct (T rfl (congrArg Value.bool (decide_eq_true hb621))) ?_
                   refine rk_exit rfl ?_
                   have H622 := (e608.blk H604)
                   exact hj145 _ _ ⟨qc - 1, f577, f578, f579, f580, f581, f582, f583, f584, rfl, f587, f588, f589, f590, f591, f592, f593, f594, f595, f596, f597, f598, f599, f600, E609, H620, H615, H622, (by omega), (guess_less64 (n := lb) hUo ho89 hVz hlb2 (by omega) (by omega) (by omega) hlt hqc hq0.1 hgt619)⟩
                 · refine rk_cf (T rfl (congrArg Value.bool (decide_eq_false hb621))) ?_
                   refine rk_skip ?_
                   refine rk_inBlock ?_
                   have H623 := (e608.blk H604)
                   exact ih574 (((qc - 1)).toNat) _ _ (by rw [hd605]; omega) ⟨(qc - 1), ((rc + (L85.getD (((lb) - 1)) 0) + 0) % 18446744073709551616), rfl, f577, f578, f579, f580, f581, f582, f583, f584, rfl, rfl, f587, f588, f589, f590, f591, f592, f593, f594, f595, f596, f597, f598, f599, f600, E609, H620, H615, H623, (by rw [Int.sub_mul, Int.one_mul]; omega), (by omega), (by omega), (guess_less64 (n := lb) hUo ho89 hVz hlb2 (by omega) (by omega) (by omega) hlt hqc hq0.1 hgt619)⟩
             · refine lw_no (d := 149) rfl rfl (congrArg Value.bool (decide_eq_false hb614)) ?_
               refine lw_no (d := 149) rfl rfl (congrArg Value.bool (decide_eq_false hb614)) ?_
               refine lw_no (d := 149) rfl rfl (congrArg Value.bool (decide_eq_false hb614)) ?_
               refine lw_no (d := 149) rfl rfl (congrArg Value.bool (decide_eq_false hb614)) ?_
               refine lw_no (d := 149) rfl rfl (congrArg Value.bool (decide_eq_false hb614)) ?_
               refine lw_no (d := 149) rfl rfl (congrArg Value.bool (decide_eq_false hb614)) ?_
               refine lw_no (d := 149) rfl rfl (congrArg Value.bool (decide_eq_false hb614)) ?_
               refine lw_no (d := 149) rfl rfl (congrArg Value.bool (decide_eq_false hb614)) ?_
               refine lw_no (d := 149) rfl rfl (congrArg Value.bool (decide_eq_false hb614)) ?_
               refine lw_vy (.bool false) (d := 145) rfl rfl (congrArg Value.bool (decide_eq_false hb610)) (dv_pick_f (T rfl (congrArg Value.bool (decide_eq_false hb614))) C) ?_
               refine lw_v (.bool false) (dv_pick_f (T rfl (congrArg Value.bool (decide_eq_false hb610))) (T rfl rfl)) ?_
               refine lw_nil ?_
               refine rk_cf (T rfl rfl) ?_
               refine rk_skip ?_
               refine rk_seq ?_
               have hgt624 : rc * 18446744073709551616 + U.getD (J - 1 + lb - 2) 0 < qc * L85.getD (lb - 2) 0 := by omega
               have hqc1 : 1 ≤ qc := pos_of_mul hq0.1 (okW.getD ho89 (by decide) (lb - 2)).1 (by omega) hgt624
               refine rk_reg ?_
               refine lw_v (.int .u64 qc) (dv_move (T rfl f585)) ?_
               refine lw_v (.int .u64 (qc - 1)) (dv_sub (a := qc) (b := 1) (z := qc - 1) (T rfl rfl) C (wn_u64 (by omega) (by omega))) ?_
               refine lw_v (.int .u64 (qc - 1)) (dv_assign (T rfl rfl)) ?_
               refine lw_nil ?_
               refine rk_seq ?_
               refine rk_reg ?_
               refine lw_v (.int .u64 0) (dv_assign C) ?_
               refine lw_nil ?_
               refine rk_seq ?_
               refine rk_reg ?_
               refine lw_v (.int .u64 rc) (dv_move (T rfl f586)) ?_
               refine lw_v (.slice (some ⟨b84, 0, none⟩) lb ((ys.length + 1))) (dv_move (T rfl f581)) ?_
               refine lw_v (.int .i64 ((lb : Int))) (dv_move (T rfl f579)) ?_
               refine lw_v (.int .i64 (((lb : Int)) - 1)) (dv_sub (a := (lb : Int)) (b := 1) (z := ((lb : Int)) - 1) (T rfl rfl) C (wr_i64 (by omega) (by omega))) ?_
               refine lw_v (.pointer (some ⟨b84, (((lb) - 1)), none⟩)) (dv_indexO (g := b84) (l := lb) (c := (ys.length + 1)) (i := ((lb) - 1)) (j := ((lb : Int)) - 1) us105 sz36 (T rfl rfl) (T rfl rfl) (by omega) (by first | omega | (simp; done) | (simp; omega))) ?_
               have H625 := (e608.blk H602)
               refine lw_v (.int .u64 (L85.getD (((lb) - 1)) 0)) (dv_loadW (L := L85) (v := L85.getD (((lb) - 1)) 0) agt36 (T rfl rfl) H625 (by first | omega | (simp; done) | (simp; omega)) rfl) ?_
               refine lw_v (.tuple #[.int .u64 ((rc + (L85.getD (((lb) - 1)) 0) + 0) % 18446744073709551616), .int .u64 ((rc + (L85.getD (((lb) - 1)) 0) + 0) / 18446744073709551616)]) (dv_ext (e := add64Entry) (vs := [.int .u64 rc, .int .u64 (L85.getD (((lb) - 1)) 0), .int .u64 0]) Try.func116 rfl rfl (by kernel_rfl) (by kernel_rfl) (ar3 (T rfl rfl) (T rfl rfl) C) (run_addE rc (L85.getD (((lb) - 1)) 0) 0 (by omega) (by omega) (by omega))) ?_
               refine lw_v (.tuple #[.int .u64 ((rc + (L85.getD (((lb) - 1)) 0) + 0) % 18446744073709551616), .int .u64 ((rc + (L85.getD (((lb) - 1)) 0) + 0) / 18446744073709551616)]) (dv_move (T rfl rfl)) ?_
               refine lw_v (.int .u64 ((rc + (L85.getD (((lb) - 1)) 0) + 0) % 18446744073709551616)) (dv_extract (vs := #[.int .u64 ((rc + (L85.getD (((lb) - 1)) 0) + 0) % 18446744073709551616), .int .u64 ((rc + (L85.getD (((lb) - 1)) 0) + 0) / 18446744073709551616)]) (T rfl rfl) rfl) ?_
               refine lw_v (.int .u64 ((rc + (L85.getD (((lb) - 1)) 0) + 0) / 18446744073709551616)) (dv_extract (vs := #[.int .u64 ((rc + (L85.getD (((lb) - 1)) 0) + 0) % 18446744073709551616), .int .u64 ((rc + (L85.getD (((lb) - 1)) 0) + 0) / 18446744073709551616)]) (T rfl rfl) rfl) ?_
               refine lw_v (.int .u64 ((rc + (L85.getD (((lb) - 1)) 0) + 0) % 18446744073709551616)) (dv_assign (T rfl rfl)) ?_
               refine lw_v (.int .u64 ((rc + (L85.getD (((lb) - 1)) 0) + 0) / 18446744073709551616)) (dv_assign (T rfl rfl)) ?_
               refine lw_nil ?_
               refine rk_seq ?_
               refine rk_reg ?_
               refine lw_v (.int .u64 ((rc + (L85.getD (((lb) - 1)) 0) + 0) / 18446744073709551616)) (dv_move (T rfl rfl)) ?_
               refine lw_v (.bool (decide (((rc + (L85.getD (((lb) - 1)) 0) + 0) / 18446744073709551616) = 1))) (dv_eql (a := (rc + (L85.getD (((lb) - 1)) 0) + 0) / 18446744073709551616) (b := 1) (T rfl rfl) C) ?_
               refine lw_nil ?_
               by_cases hb626 : ((rc + (L85.getD (((lb) - 1)) 0) + 0) / 18446744073709551616) = 1
               · refine rk_ct (T rfl (congrArg Value.bool (decide_eq_true hb626))) ?_
                 refine rk_exit rfl ?_
                 have H627 := (e608.blk H603)
                 have H628 := (e608.blk H604)
                 exact hj145 _ _ ⟨qc - 1, f577, f578, f579, f580, f581, f582, f583, f584, rfl, f587, f588, f589, f590, f591, f592, f593, f594, f595, f596, f597, f598, f599, f600, E609, H625, H627, H628, (by omega), (guess_less64 (n := lb) hUo ho89 hVz hlb2 (by omega) (by omega) (by omega) hlt hqc hq0.1 hgt624)⟩
               · refine rk_cf (T rfl (congrArg Value.bool (decide_eq_false hb626))) ?_
                 refine rk_skip ?_
                 refine rk_inBlock ?_
                 have H629 := (e608.blk H603)
                 have H630 := (e608.blk H604)
                 exact ih574 (((qc - 1)).toNat) _ _ (by rw [hd605]; omega) ⟨(qc - 1), ((rc + (L85.getD (((lb) - 1)) 0) + 0) % 18446744073709551616), rfl, f577, f578, f579, f580, f581, f582, f583, f584, rfl, rfl, f587, f588, f589, f590, f591, f592, f593, f594, f595, f596, f597, f598, f599, f600, E609, H625, H629, H630, (by rw [Int.sub_mul, Int.one_mul]; omega), (by omega), (by omega), (guess_less64 (n := lb) hUo ho89 hVz hlb2 (by omega) (by omega) (by omega) hlt hqc hq0.1 hgt624)⟩
         · refine rk_cf (T rfl (congrArg Value.bool (decide_eq_false hb557))) ?_
           refine rk_skip ?_
           have H631 := (d139.ext.blk H130)
           exact hj145 _ _ ⟨18446744073709551615, f119, f120, f121, f122, f123, f124, f125, f126, rfl, rfl, rfl, rfl, rfl, rfl, rfl, rfl, rfl, rfl, rfl, rfl, rfl, rfl, rfl, E140, H142, H141, H631, (by decide), (guess_top64 (by omega) hlt)⟩
     · refine rk_cf (T rfl (congrArg Value.bool (decide_eq_false hb137))) ?_
       refine rk_exit rfl ?_
       refine rk_seq ?_
       have hJ0 : J = 0 := by omega
       have hlt2 : valB (2 ^ 64) U < valB (2 ^ 64) L85 := by have h := hlt; rw [hJ0] at h; simpa using h
       have hUnn := valB_nonneg (B := 2 ^ 64) (by decide) hUo
       have hUz2 := zero_of_lt (by decide) hUo (m := lb) (by rw [hVv] at hlt2; omega)
       refine rk_reg ?_
       refine lw_v (.slice (some ⟨b96, 0, none⟩) ((xs.length + 1)) ((xs.length + 1))) (dv_move (T rfl f124)) ?_
       refine lw_v (.int .i64 ((lb : Int))) (dv_move (T rfl f121)) ?_
       refine lw_v (.slice (some ⟨b96, 0, none⟩) lb ((xs.length + 1))) (dv_sliceH (ad := some ⟨b96, 0, none⟩) (l := (xs.length + 1)) (c := (xs.length + 1)) (i := lb) (j := (lb : Int)) us105 sz36 (T rfl rfl) (T rfl rfl) (by omega) (by first | omega | (simp; done) | (simp; omega))) ?_
       refine lw_e (oe_callf (vs := [.slice (some ⟨b96, 0, none⟩) lb ((xs.length + 1))]) co139 (ar1 (T rfl rfl)) (trim_okl ((Wd.ownW H129).take lb) (by first | omega | (simp; done) | (simp; omega)) (by first | omega | (simp; done) | (simp; omega)) (by first | rfl | first | (simp; done) | (simp; omega) | omega)) ?_)
       rintro _ w632 ⟨rfl, e633⟩
       have E634 := below_ext E127 E127.size e633
       refine lw_v (.slice (some ⟨b96, 0, none⟩) ((trimL ((U.take lb))).length) ((xs.length + 1))) (dv_assign (T rfl rfl)) ?_
       refine lw_nil ?_
       refine rk_seq ?_
       refine rk_seq ?_
       refine rk_reg ?_
       refine lw_v (.slice (some ⟨b96, 0, none⟩) ((trimL ((U.take lb))).length) ((xs.length + 1))) (dv_move (T rfl rfl)) ?_
       refine lw_v (.int .i64 (((trimL ((U.take lb))).length : Int))) (dv_len (ad := some ⟨b96, 0, none⟩) (l := (trimL ((U.take lb))).length) (c := (xs.length + 1)) us105 (T rfl rfl)) ?_
       refine lw_v (.int .i64 0) (dv_move C) ?_
       refine lw_nil ?_
       refine rk_block ?_
       have htl : (trimL (U.take lb)).length ≤ lb := by have := trimL_len (U.take lb); simp at this; omega
       have hU0 : ∀ k, (trimL (U.take lb)).length ≤ k → U.getD k 0 = 0 := fun k hk => by
        by_cases h : k < lb
        · have := trim_zero (xs := U.take lb) k hk (by simp; omega)
          rwa [getD_take _ _ _ h] at this
        · exact hUz2 k (by omega)
       have H635 := (e633.blk H128)
       have H636 := (e633.blk H129)
       have H637 := (e633.blk H130)
       refine rk_loop (fun dm_ fr wl => ∃ (i3 : Nat) (M3 : List Int), dm_ = (trimL (U.take lb)).length - i3 ∧ fr 4 = .slice none 0 0 ∧ fr 5 = .slice none 0 0 ∧ fr 10 = .int .i64 ((S73 : Int)) ∧ fr 13 = .slice (some ⟨b107, 0, none⟩) ((((la) - (lb)) + 1)) ((((la) - (lb)) + 1)) ∧ fr 28 = .slice (some ⟨b96, 0, none⟩) ((trimL ((U.take lb))).length) ((xs.length + 1)) ∧ fr 289 = .int .i64 (((trimL ((U.take lb))).length : Int)) ∧ fr 290 = .int .i64 ((i3 : Int)) ∧ Below w.heap.size w wl ∧ wl.heap[b84]? = some (.cells (L85.map (Value.int .u64)).toArray 36) ∧ wl.heap[b96]? = some (.cells (M3.map (Value.int .u64)).toArray 36) ∧ wl.heap[b107]? = some (.cells (O.map (Value.int .u64)).toArray 36) ∧ (i3 ≤ (trimL (U.take lb)).length) ∧ (M3.length = U.length) ∧ (∀ k, k < U.length → M3.getD k 0 = if k < i3 then (U.getD k 0 + 18446744073709551616 * U.getD (k + 1) 0) / 2 ^ S73 % 18446744073709551616 else U.getD k 0)) ((trimL (U.take lb)).length - 0) ⟨0, U, rfl, f119, f120, f122, f125, rfl, rfl, (vi (by omega)), E634, H635, H636, H637, (Nat.zero_le _), rfl, (fun k hk => by rw [if_neg (by omega)])⟩ ?_
       intro d642 fr641 w638 hI639 ih640
       obtain ⟨i3, M3, hd654, f643, f644, f645, f646, f647, f648, f649, E650, H651, H652, H653, hi3, hM3l, hpt⟩ := hI639
       have bu3 := okW.getD hUo (by decide) i3
       have bu4 := okW.getD hUo (by decide) (i3 + 1)
       refine rk_seq ?_
       refine rk_reg ?_
       refine lw_v (.bool (decide (((i3 : Int)) < (((trimL ((U.take lb))).length : Int))))) (dv_lss (a := (i3 : Int)) (b := ((trimL ((U.take lb))).length : Int)) (T rfl f649) (T rfl f648)) ?_
       refine lw_nil ?_
       refine rk_seq ?_
       by_cases hb655 : ((i3 : Int)) < (((trimL ((U.take lb))).length : Int))
       · refine rk_ct (T rfl (congrArg Value.bool (decide_eq_true hb655))) ?_
         refine rk_skip ?_
         refine rk_seq ?_
         refine rk_block ?_
         refine rk_seq ?_
         refine rk_reg ?_
         refine lw_v (.int .i64 ((i3 : Int))) (dv_move (T rfl f649)) ?_
         refine lw_v (.int .i64 ((i3 : Int))) (dv_assign (T rfl rfl)) ?_
         refine lw_nil ?_
         refine rk_seq ?_
         refine rk_reg ?_
         refine lw_v (.int .u64 0) (dv_assign C) ?_
         refine lw_nil ?_
         refine rk_seq ?_
         refine rk_seq ?_
         have hM1 : i3 + 1 < U.length → M3.getD (i3 + 1) 0 = U.getD (i3 + 1) 0 := fun h => by rw [hpt _ h, if_neg (by omega)]
         refine rk_reg ?_
         refine lw_v (.int .i64 ((i3 : Int))) (dv_move (T rfl rfl)) ?_
         refine lw_v (.int .i64 (((i3 : Int)) + 1)) (dv_add (a := (i3 : Int)) (b := 1) (z := ((i3 : Int)) + 1) (T rfl rfl) C (wr_i64 (by omega) (by omega))) ?_
         refine lw_v (.slice (some ⟨b96, 0, none⟩) ((trimL ((U.take lb))).length) ((xs.length + 1))) (dv_move (T rfl f647)) ?_
         refine lw_v (.int .i64 (((trimL ((U.take lb))).length : Int))) (dv_len (ad := some ⟨b96, 0, none⟩) (l := (trimL ((U.take lb))).length) (c := (xs.length + 1)) us105 (T rfl rfl)) ?_
         refine lw_v (.bool (decide ((((i3 : Int)) + 1) < (((trimL ((U.take lb))).length : Int))))) (dv_lss (a := ((i3 : Int)) + 1) (b := ((trimL ((U.take lb))).length : Int)) (T rfl rfl) (T rfl rfl)) ?_
         refine lw_v (.bool (decide ((((i3 : Int)) + 1) < (((trimL ((U.take lb))).length : Int))))) (dv_move (T rfl rfl)) ?_
         by_cases hb656 : (((i3 : Int)) + 1) < (((trimL ((U.take lb))).length : Int))
         · refine lw_vy (.int .i64 ((S73 : Int))) (d := 298) rfl rfl (congrArg Value.bool (decide_eq_true hb656)) (dv_move (T rfl f645)) ?_
           refine lw_vy (.bool (decide (0 < ((S73 : Int))))) (d := 298) rfl rfl (congrArg Value.bool (decide_eq_true hb656)) (dv_gtr (a := (S73 : Int)) (b := 0) (T rfl rfl) C) ?_
           refine lw_v (.bool (decide (0 < ((S73 : Int))))) (dv_pick_t (T rfl (congrArg Value.bool (decide_eq_true hb656))) (T rfl rfl)) ?_
           refine lw_nil ?_
           refine rk_join (fun fr wl => ∃ (hw : Int), fr 4 = .slice none 0 0 ∧ fr 5 = .slice none 0 0 ∧ fr 10 = .int .i64 ((S73 : Int)) ∧ fr 13 = .slice (some ⟨b107, 0, none⟩) ((((la) - (lb)) + 1)) ((((la) - (lb)) + 1)) ∧ fr 28 = .slice (some ⟨b96, 0, none⟩) ((trimL ((U.take lb))).length) ((xs.length + 1)) ∧ fr 29 = .int .i64 ((i3 : Int)) ∧ fr 30 = .int .u64 hw ∧ fr 289 = .int .i64 (((trimL ((U.take lb))).length : Int)) ∧ fr 290 = .int .i64 ((i3 : Int)) ∧ fr 291 = .bool (decide (((i3 : Int)) < (((trimL ((U.take lb))).length : Int)))) ∧ fr 292 = .int .i64 ((i3 : Int)) ∧ fr 293 = .int .i64 ((i3 : Int)) ∧ fr 294 = .int .i64 (((i3 : Int)) + 1) ∧ fr 295 = .slice (some ⟨b96, 0, none⟩) ((trimL ((U.take lb))).length) ((xs.length + 1)) ∧ fr 296 = .int .i64 (((trimL ((U.take lb))).length : Int)) ∧ fr 297 = .bool (decide ((((i3 : Int)) + 1) < (((trimL ((U.take lb))).length : Int)))) ∧ fr 298 = .bool (decide ((((i3 : Int)) + 1) < (((trimL ((U.take lb))).length : Int)))) ∧ fr 299 = .int .i64 ((S73 : Int)) ∧ fr 300 = .bool (decide (0 < ((S73 : Int)))) ∧ fr 301 = .bool (decide (0 < ((S73 : Int)))) ∧ Below w.heap.size w wl ∧ wl.heap[b84]? = some (.cells (L85.map (Value.int .u64)).toArray 36) ∧ wl.heap[b96]? = some (.cells (M3.map (Value.int .u64)).toArray 36) ∧ wl.heap[b107]? = some (.cells (O.map (Value.int .u64)).toArray 36) ∧ (hw = U.getD (i3 + 1) 0 * 2 ^ (64 - S73) % 18446744073709551616)) ?_ (fun hj659 => ?_)
           · intro fr660 w657 hI658
             obtain ⟨hw, f661, f662, f663, f664, f665, f666, f667, f668, f669, f670, f671, f672, f673, f674, f675, f676, f677, f678, f679, f680, E681, H682, H683, H684, hhw⟩ := hI658
             have hMi : M3.getD i3 0 = U.getD i3 0 := by rw [hpt _ (by omega), if_neg (by omega)]
             have hsw := shr_word (u := U.getD i3 0) (h := U.getD (i3 + 1) 0) hs74 bu3.1 bu3.2 bu4.1
             have hmz : hw % 2 ^ (64 - S73) = 0 := by rw [hhw]; exact shl_mod (by omega)
             have hp64 : (2 : Int) ^ (64 - S73) ≤ 2 ^ 64 := pow_le_of (by decide) (by omega)
             have hwr : 0 ≤ hw ∧ hw < 18446744073709551616 := by rw [hhw]; exact ⟨Int.emod_nonneg _ (by decide), Int.emod_lt_of_pos _ (by decide)⟩
             refine rk_reg ?_
             refine lw_v (.slice (some ⟨b96, 0, none⟩) ((trimL ((U.take lb))).length) ((xs.length + 1))) (dv_move (T rfl f665)) ?_
             refine lw_v (.int .i64 ((i3 : Int))) (dv_move (T rfl f666)) ?_
             refine lw_v (.slice (some ⟨b96, 0, none⟩) ((trimL ((U.take lb))).length) ((xs.length + 1))) (dv_move (T rfl f665)) ?_
             refine lw_v (.int .i64 ((i3 : Int))) (dv_move (T rfl f666)) ?_
             refine lw_v (.pointer (some ⟨b96, i3, none⟩)) (dv_indexO (g := b96) (l := (trimL ((U.take lb))).length) (c := (xs.length + 1)) (i := i3) (j := (i3 : Int)) us105 sz36 (T rfl rfl) (T rfl rfl) (by omega) (by first | omega | (simp; done) | (simp; omega))) ?_
             refine lw_v (.int .u64 (M3.getD i3 0)) (dv_loadW (L := M3) (v := M3.getD i3 0) agt36 (T rfl rfl) H683 (by first | omega | (simp; done) | (simp; omega)) rfl) ?_
             refine lw_v (.int .i64 ((S73 : Int))) (dv_move (T rfl f663)) ?_
             refine lw_v (.int .u64 ((M3.getD i3 0) / 2 ^ S73)) (dv_shr (a := M3.getD i3 0) (b := (S73 : Int)) (z := (M3.getD i3 0) / 2 ^ S73) (T rfl rfl) (T rfl rfl) (by omega) (shr_v (K := S73) (by omega) (show _ ≤ 64 by omega))) ?_
             refine lw_v (.int .u64 hw) (dv_move (T rfl f667)) ?_
             refine lw_v (.int .u64 (((M3.getD i3 0) / 2 ^ S73) + hw)) (dv_or (a := (M3.getD i3 0) / 2 ^ S73) (b := hw) (z := ((M3.getD i3 0) / 2 ^ S73) + hw) (T rfl rfl) (T rfl rfl) (by rw [hMi]; exact (or_add (k := .u64) (a := U.getD i3 0 / 2 ^ S73) (b := hw) (i := 64 - S73) rfl hsw.2.1 hsw.2.2 hwr.1 hmz (lt64 (by omega)) (lt64 (by omega))).1)) ?_
             refine lw_v (.pointer (some ⟨b96, i3, none⟩)) (dv_indexO (g := b96) (l := (trimL ((U.take lb))).length) (c := (xs.length + 1)) (i := i3) (j := (i3 : Int)) us105 sz36 (T rfl rfl) (T rfl rfl) (by omega) (by first | omega | (simp; done) | (simp; omega))) ?_
             refine lw_e (oe_storeW (L := M3) (i := i3) (z := ((M3.getD i3 0) / 2 ^ S73) + hw) sz36 (T rfl rfl) (T rfl rfl) H683 (by first | omega | (simp; done) | (simp; omega)) ?_)
             intro w685 s686 H687
             have E688 := below_st E681 N106 s686
             refine lw_nil ?_
             refine rk_inBlock ?_
             refine rk_reg ?_
             refine lw_v (.int .i64 (((i3 : Int)) + 1)) (dv_add (a := (i3 : Int)) (b := 1) (z := ((i3 : Int)) + 1) (T rfl f669) C (wr_i64 (by omega) (by omega))) ?_
             refine lw_v (.int .i64 (((i3 : Int)) + 1)) (dv_move (T rfl rfl)) ?_
             refine lw_nil ?_
             have H689 := (s686.blk H682 (by omega))
             have H690 := (s686.blk H684 (by omega))
             exact ih640 ((trimL (U.take lb)).length - ((i3 + 1))) _ _ (by rw [hd654]; omega) ⟨(i3 + 1), (M3.set i3 (((M3.getD i3 0) / 2 ^ S73) + hw)), rfl, f661, f662, f663, f664, f665, f668, (vi (by omega)), E688, H689, H687, H690, (by omega), (by simp [hM3l]), (shr_pt (by omega) hM3l (by rw [hMi, hhw]; exact hsw.1.symm) hpt)⟩
           · by_cases hb691 : 0 < ((S73 : Int))
             · refine rk_ct (T rfl (congrArg Value.bool (decide_eq_true hb691))) ?_
               have hM1b := hM1 (by omega)
               refine rk_reg ?_
               refine lw_v (.slice (some ⟨b96, 0, none⟩) ((trimL ((U.take lb))).length) ((xs.length + 1))) (dv_move (T rfl f647)) ?_
               refine lw_v (.int .i64 ((i3 : Int))) (dv_move (T rfl rfl)) ?_
               refine lw_v (.int .i64 (((i3 : Int)) + 1)) (dv_add (a := (i3 : Int)) (b := 1) (z := ((i3 : Int)) + 1) (T rfl rfl) C (wr_i64 (by omega) (by omega))) ?_
               refine lw_v (.pointer (some ⟨b96, (((i3) + 1)), none⟩)) (dv_indexO (g := b96) (l := (trimL ((U.take lb))).length) (c := (xs.length + 1)) (i := ((i3) + 1)) (j := ((i3 : Int)) + 1) us105 sz36 (T rfl rfl) (T rfl rfl) (by omega) (by first | omega | (simp; done) | (simp; omega))) ?_
               refine lw_v (.int .u64 (M3.getD (((i3) + 1)) 0)) (dv_loadW (L := M3) (v := M3.getD (((i3) + 1)) 0) agt36 (T rfl rfl) H652 (by first | omega | (simp; done) | (simp; omega)) rfl) ?_
               refine lw_v (.int .i64 ((S73 : Int))) (dv_move (T rfl f645)) ?_
               refine lw_v (.int .i64 (64 - ((S73 : Int)))) (dv_sub (a := 64) (b := (S73 : Int)) (z := 64 - ((S73 : Int))) C (T rfl rfl) (wr_i64 (by omega) (by omega))) ?_
               refine lw_v (.int .u64 (((M3.getD (((i3) + 1)) 0) * 2 ^ ((64 - (S73)))) % 18446744073709551616)) (dv_shl (a := M3.getD (((i3) + 1)) 0) (b := 64 - ((S73 : Int))) (z := ((M3.getD (((i3) + 1)) 0) * 2 ^ ((64 - (S73)))) % 18446744073709551616) (T rfl rfl) (T rfl rfl) (by omega) (shl_w (K := (64 - (S73))) (by omega) (show _ ≤ 64 by omega) (wr_u64 _))) ?_
               refine lw_v (.int .u64 (((M3.getD (((i3) + 1)) 0) * 2 ^ ((64 - (S73)))) % 18446744073709551616)) (dv_assign (T rfl rfl)) ?_
               refine lw_nil ?_
               exact hj659 _ _ ⟨((M3.getD (((i3) + 1)) 0) * 2 ^ ((64 - (S73)))) % 18446744073709551616, f643, f644, f645, f646, f647, rfl, rfl, f648, f649, rfl, rfl, rfl, rfl, rfl, rfl, rfl, rfl, rfl, rfl, rfl, E650, H651, H652, H653, (by rw [hM1b])⟩
             · refine rk_cf (T rfl (congrArg Value.bool (decide_eq_false hb691))) ?_
               refine rk_skip ?_
               exact hj659 _ _ ⟨0, f643, f644, f645, f646, f647, rfl, rfl, f648, f649, rfl, rfl, rfl, rfl, rfl, rfl, rfl, rfl, rfl, rfl, rfl, E650, H651, H652, H653, (by first | exact hi_zero (by omega) | (rw [hU0 _ (by omega)]; simp))⟩
         · refine lw_no (d := 298) rfl rfl (congrArg Value.bool (decide_eq_false hb656)) ?_
           refine lw_no (d := 298) rfl rfl (congrArg Value.bool (decide_eq_false hb656)) ?_
           refine lw_v (.bool false) (dv_pick_f (T rfl (congrArg Value.bool (decide_eq_false hb656))) C) ?_
           refine lw_nil ?_
           refine rk_join (fun fr wl => ∃ (hw : Int), fr 4 = .slice none 0 0 ∧ fr 5 = .slice none 0 0 ∧ fr 10 = .int .i64 ((S73 : Int)) ∧ fr 13 = .slice (some ⟨b107, 0, none⟩) ((((la) - (lb)) + 1)) ((((la) - (lb)) + 1)) ∧ fr 28 = .slice (some ⟨b96, 0, none⟩) ((trimL ((U.take lb))).length) ((xs.length + 1)) ∧ fr 29 = .int .i64 ((i3 : Int)) ∧ fr 30 = .int .u64 hw ∧ fr 289 = .int .i64 (((trimL ((U.take lb))).length : Int)) ∧ fr 290 = .int .i64 ((i3 : Int)) ∧ fr 291 = .bool (decide (((i3 : Int)) < (((trimL ((U.take lb))).length : Int)))) ∧ fr 292 = .int .i64 ((i3 : Int)) ∧ fr 293 = .int .i64 ((i3 : Int)) ∧ fr 294 = .int .i64 (((i3 : Int)) + 1) ∧ fr 295 = .slice (some ⟨b96, 0, none⟩) ((trimL ((U.take lb))).length) ((xs.length + 1)) ∧ fr 296 = .int .i64 (((trimL ((U.take lb))).length : Int)) ∧ fr 297 = .bool (decide ((((i3 : Int)) + 1) < (((trimL ((U.take lb))).length : Int)))) ∧ fr 298 = .bool (decide ((((i3 : Int)) + 1) < (((trimL ((U.take lb))).length : Int)))) ∧ fr 301 = .bool false ∧ Below w.heap.size w wl ∧ wl.heap[b84]? = some (.cells (L85.map (Value.int .u64)).toArray 36) ∧ wl.heap[b96]? = some (.cells (M3.map (Value.int .u64)).toArray 36) ∧ wl.heap[b107]? = some (.cells (O.map (Value.int .u64)).toArray 36) ∧ (hw = U.getD (i3 + 1) 0 * 2 ^ (64 - S73) % 18446744073709551616)) ?_ (fun hj694 => ?_)
           · intro fr695 w692 hI693
             obtain ⟨hw, f696, f697, f698, f699, f700, f701, f702, f703, f704, f705, f706, f707, f708, f709, f710, f711, f712, f713, E714, H715, H716, H717, hhw⟩ := hI693
             have hMi : M3.getD i3 0 = U.getD i3 0 := by rw [hpt _ (by omega), if_neg (by omega)]
             have hsw := shr_word (u := U.getD i3 0) (h := U.getD (i3 + 1) 0) hs74 bu3.1 bu3.2 bu4.1
             have hmz : hw % 2 ^ (64 - S73) = 0 := by rw [hhw]; exact shl_mod (by omega)
             have hp64 : (2 : Int) ^ (64 - S73) ≤ 2 ^ 64 := pow_le_of (by decide) (by omega)
             have hwr : 0 ≤ hw ∧ hw < 18446744073709551616 := by rw [hhw]; exact ⟨Int.emod_nonneg _ (by decide), Int.emod_lt_of_pos _ (by decide)⟩
             refine rk_reg ?_
             refine lw_v (.slice (some ⟨b96, 0, none⟩) ((trimL ((U.take lb))).length) ((xs.length + 1))) (dv_move (T rfl f700)) ?_
             refine lw_v (.int .i64 ((i3 : Int))) (dv_move (T rfl f701)) ?_
             refine lw_v (.slice (some ⟨b96, 0, none⟩) ((trimL ((U.take lb))).length) ((xs.length + 1))) (dv_move (T rfl f700)) ?_
             refine lw_v (.int .i64 ((i3 : Int))) (dv_move (T rfl f701)) ?_
             refine lw_v (.pointer (some ⟨b96, i3, none⟩)) (dv_indexO (g := b96) (l := (trimL ((U.take lb))).length) (c := (xs.length + 1)) (i := i3) (j := (i3 : Int)) us105 sz36 (T rfl rfl) (T rfl rfl) (by omega) (by first | omega | (simp; done) | (simp; omega))) ?_
             refine lw_v (.int .u64 (M3.getD i3 0)) (dv_loadW (L := M3) (v := M3.getD i3 0) agt36 (T rfl rfl) H716 (by first | omega | (simp; done) | (simp; omega)) rfl) ?_
             refine lw_v (.int .i64 ((S73 : Int))) (dv_move (T rfl f698)) ?_
             refine lw_v (.int .u64 ((M3.getD i3 0) / 2 ^ S73)) (dv_shr (a := M3.getD i3 0) (b := (S73 : Int)) (z := (M3.getD i3 0) / 2 ^ S73) (T rfl rfl) (T rfl rfl) (by omega) (shr_v (K := S73) (by omega) (show _ ≤ 64 by omega))) ?_
             refine lw_v (.int .u64 hw) (dv_move (T rfl f702)) ?_
             refine lw_v (.int .u64 (((M3.getD i3 0) / 2 ^ S73) + hw)) (dv_or (a := (M3.getD i3 0) / 2 ^ S73) (b := hw) (z := ((M3.getD i3 0) / 2 ^ S73) + hw) (T rfl rfl) (T rfl rfl) (by rw [hMi]; exact (or_add (k := .u64) (a := U.getD i3 0 / 2 ^ S73) (b := hw) (i := 64 - S73) rfl hsw.2.1 hsw.2.2 hwr.1 hmz (lt64 (by omega)) (lt64 (by omega))).1)) ?_
             refine lw_v (.pointer (some ⟨b96, i3, none⟩)) (dv_indexO (g := b96) (l := (trimL ((U.take lb))).length) (c := (xs.length + 1)) (i := i3) (j := (i3 : Int)) us105 sz36 (T rfl rfl) (T rfl rfl) (by omega) (by first | omega | (simp; done) | (simp; omega))) ?_
             refine lw_e (oe_storeW (L := M3) (i := i3) (z := ((M3.getD i3 0) / 2 ^ S73) + hw) sz36 (T rfl rfl) (T rfl rfl) H716 (by first | omega | (simp; done) | (simp; omega)) ?_)
             intro w718 s719 H720
             have E721 := below_st E714 N106 s719
             refine lw_nil ?_
             refine rk_inBlock ?_
             refine rk_reg ?_
             refine lw_v (.int .i64 (((i3 : Int)) + 1)) (dv_add (a := (i3 : Int)) (b := 1) (z := ((i3 : Int)) + 1) (T rfl f704) C (wr_i64 (by omega) (by omega))) ?_
             refine lw_v (.int .i64 (((i3 : Int)) + 1)) (dv_move (T rfl rfl)) ?_
             refine lw_nil ?_
             have H722 := (s719.blk H715 (by omega))
             have H723 := (s719.blk H717 (by omega))
             exact ih640 ((trimL (U.take lb)).length - ((i3 + 1))) _ _ (by rw [hd654]; omega) ⟨(i3 + 1), (M3.set i3 (((M3.getD i3 0) / 2 ^ S73) + hw)), rfl, f696, f697, f698, f699, f700, f703, (vi (by omega)), E721, H722, H720, H723, (by omega), (by simp [hM3l]), (shr_pt (by omega) hM3l (by rw [hMi, hhw]; exact hsw.1.symm) hpt)⟩
           · refine rk_cf (T rfl rfl) ?_
             refine rk_skip ?_
             exact hj694 _ _ ⟨0, f643, f644, f645, f646, f647, rfl, rfl, f648, f649, rfl, rfl, rfl, rfl, rfl, rfl, rfl, rfl, rfl, E650, H651, H652, H653, (by first | exact hi_zero (by omega) | (rw [hU0 _ (by omega)]; simp))⟩
       · refine rk_cf (T rfl (congrArg Value.bool (decide_eq_false hb655))) ?_
         refine rk_exit rfl ?_
         refine rk_seq ?_
         have hse := shr_end hs74 hUo (t := (trimL (U.take lb)).length) (by omega) hM3l hU0 (fun k hk => by have h := hpt k hk; rwa [show i3 = (trimL (U.take lb)).length by omega] at h)
         refine rk_reg ?_
         refine lw_v (.slice (some ⟨b107, 0, none⟩) ((((la) - (lb)) + 1)) ((((la) - (lb)) + 1))) (dv_move (T rfl f646)) ?_
         refine lw_e (oe_callf (vs := [.slice (some ⟨b107, 0, none⟩) ((((la) - (lb)) + 1)) ((((la) - (lb)) + 1))]) co139 (ar1 (T rfl rfl)) (trim_okl (Wd.ownW H653) (by first | omega | (simp; done) | (simp; omega)) (by first | omega | (simp; done) | (simp; omega)) (by first | rfl | first | (simp; done) | (simp; omega) | omega)) ?_)
         rintro _ w724 ⟨rfl, e725⟩
         have E726 := below_ext E650 E650.size e725
         refine lw_v (.slice (some ⟨b96, 0, none⟩) ((trimL ((U.take lb))).length) ((xs.length + 1))) (dv_move (T rfl f647)) ?_
         have h727 := (((Wd.ownW H652).take ((trimL (U.take lb)).length)).ext e725)
         refine lw_e (oe_callf (vs := [.slice (some ⟨b96, 0, none⟩) ((trimL ((U.take lb))).length) ((xs.length + 1))]) co139 (ar1 (T rfl rfl)) (trim_okl h727 (by first | omega | (simp; done) | (simp; omega)) (by first | omega | (simp; done) | (simp; omega)) (by first | rfl | first | (simp; done) | (simp; omega) | omega)) ?_)
         rintro _ w728 ⟨rfl, e729⟩
         have E730 := below_ext E726 E726.size e729
         refine lw_v (.slice (some ⟨b107, 0, none⟩) ((trimL O).length) ((((la) - (lb)) + 1))) (dv_assign (T rfl rfl)) ?_
         refine lw_v (.slice (some ⟨b96, 0, none⟩) ((trimL ((M3.take ((trimL (U.take lb)).length)))).length) ((xs.length + 1))) (dv_assign (T rfl rfl)) ?_
         refine lw_nil ?_
         refine rk_ret Try.func135 (v := .tuple #[.slice (some ⟨b107, 0, none⟩) ((trimL O).length) ((((la) - (lb)) + 1)), .slice (some ⟨b96, 0, none⟩) ((trimL ((M3.take ((trimL (U.take lb)).length)))).length) ((xs.length + 1))]) (res2 Try.results135 (rv_tmp rfl rfl) (rv_tmp rfl rfl)) ⟨_, rfl, ?_⟩
         have h731 := ((Wd.trim ((Wd.ownW H653).ext e725)).ext e729)
         have hd := div_sc (x := x) (y := y) (q := valB (2 ^ 64) O) (r := valB (2 ^ 64) U) (two_pos S73) (by rw [← hVv]; exact hV) hUnn (by rw [← hVv]; exact hlt2)
         have ht1 := trimL_len O
         have ht2 := trimL_len ((M3.take ((trimL (U.take lb)).length)))
         simp only [List.length_cons, List.length_nil, List.length_take] at ht1 ht2
         exact ⟨_, _, _, _, _, _, rfl, E730, ⟨trimL O, rfl, (by omega), h731, trimL_ok hOo, trimL_canon _, (by rw [trimL_val]; exact hd.1.symm)⟩, ⟨trimL ((M3.take ((trimL (U.take lb)).length))), rfl, (by first | omega | (simp; omega)), (Wd.trim (h727.ext e729)), trimL_ok hse.2, trimL_canon _, (by rw [trimL_val]; exact (by rw [hse.1]; exact hd.2.1.symm))⟩⟩
end Go.Proofs.Ytmbpomcbdopgnaa.W
set_option linter.unusedVariables false
set_option linter.unusedSimpArgs false
namespace Go.Proofs.Ytmbpomcbdopgnaa.W
open Go Go.RowKit Go.Proofs.Ytmbpomcbdopgnaa.Fw
attribute [local irreducible] RunK LW AW DV OE Ct
theorem co128 : callOk Try.prog 128 = true := by kernel_rfl
theorem l1Trim_numA {w : World} {neg : Bool} {A : Option Addr} {l c s : Nat} {x : Int} (h : Ws 32 168 .u32 w A l c x) (hl : l ≤ 1000000) (hs : x < 2 ^ s) : Ct Try.prog 131 [.bool neg, .slice A l c] w fun v w1 =>
 ∃ nb A' n c', v = .agg #[.bool nb, .slice A' n c'] ∧ Ext w w1 ∧ Num 32 168 .u32 w1 nb A' n c' (sg neg x) s ∧ (A' = none ∨ A' = A) := by
 obtain ⟨xs, rfl, hc, hw, ho, hv⟩ := h
 refine (l1Trim_ok (neg := neg) hw hc hl).mono fun v w1 ⟨h1, h2⟩ => ?_
 have hc' := trimL_canon xs
 have hcp := canon_pos (B := 2 ^ 32) (by decide) (trimL_ok ho) hc'
 rw [trimL_val, ← hv] at hcp
 have h0 := valB_nonneg (B := 2 ^ 32) (by decide) ho
 by_cases hz : (trimL xs).length = 0
 · rw [if_pos hz] at h1
   have hx0 : x = 0 := by omega
   subst hx0
   exact ⟨_, _, _, _, h1, h2, Num.zero.to (by cases neg <;> simp [sg]) (Nat.le_refl _), .inl rfl⟩
 · rw [if_neg hz] at h1
   exact ⟨_, _, _, _, h1, h2, Wc.num ⟨trimL xs, rfl, Nat.le_trans (trimL_len xs) hc, (hw.ext h2).trim, trimL_ok ho, hc', by rw [hv, trimL_val]⟩ (fun hn => by omega) rfl hs, .inr rfl⟩
set_option maxHeartbeats 1000000 in
theorem l1DivAbs_ok {w : World} {Aa Ab : Option Addr} {la ca lb cb : Nat} {x y : Int} {sx sy : Nat} (ha : Wc 32 168 .u32 w Aa la ca x) (hb : Wc 32 168 .u32 w Ab lb cb y) (hy : 0 < y) (hxs : x < 2 ^ sx) (hys : y < 2 ^ sy) (hs : sx ≤ 200000) (hs2 : sy ≤ 200000) : Ct Try.prog 130 [.slice Aa la ca, .slice Ab lb cb] w fun v w1 => ∃ A1 n1 c1 A2 n2 c2, v = .tuple #[.slice A1 n1 c1, .slice A2 n2 c2] ∧ Ext w w1 ∧ Wc 32 168 .u32 w1 A1 n1 c1 (x / y) ∧ Wc 32 168 .u32 w1 A2 n2 c2 (x % y) := by
 refine ct_run (n := 59) Try.func130 rfl Try.ntmps130 rfl ?_
 have E0 : Below w.heap.size w w := Below.refl _ _
 have hx0 := ha.nonneg
 have lla := Wc.len (by decide) ha hxs
 have llb := Wc.len (by decide) hb hys
 have hnx : nbits x.toNat ≤ sx := nbits_le_iff.2 (by have e2 : ((2 ^ sx : Nat) : Int) = 2 ^ sx := (by simp); omega)
 have hny : nbits y.toNat ≤ sy := nbits_le_iff.2 (by have e2 : ((2 ^ sy : Nat) : Int) = 2 ^ sy := (by simp); omega)
 have hn1 := nbits_pos (x := y.toNat) (by omega)
 refine rk_seq ?_
 refine rk_reg ?_
 refine lw_v (.slice none 0 0) (dv_assign C) ?_
 refine lw_v (.slice none 0 0) (dv_assign C) ?_
 refine lw_nil ?_
 refine rk_seq ?_
 refine rk_reg ?_
 refine lw_v (.slice Aa la ca) (dv_move (T rfl rfl)) ?_
 refine lw_e (oe_callf (vs := [.slice Aa la ca]) co128 (ar1 (T rfl rfl)) (l1Bits_wc ha (by first | omega | (simp; done) | (simp; omega))) ?_)
 rintro _ w1 ⟨rfl, e2⟩
 have E3 := below_ext E0 E0.size e2
 refine lw_v (.slice Ab lb cb) (dv_move (T rfl rfl)) ?_
 have h4 := (hb.ext e2)
 refine lw_e (oe_callf (vs := [.slice Ab lb cb]) co128 (ar1 (T rfl rfl)) (l1Bits_wc h4 (by first | omega | (simp; done) | (simp; omega))) ?_)
 rintro _ w5 ⟨rfl, e6⟩
 have E7 := below_ext E3 E3.size e6
 refine lw_v (.int .i64 (((nbits (x).toNat : Int)) - ((nbits (y).toNat : Int)))) (dv_sub (a := (nbits (x).toNat : Int)) (b := (nbits (y).toNat : Int)) (z := ((nbits (x).toNat : Int)) - ((nbits (y).toNat : Int))) (T rfl rfl) (T rfl rfl) (wr_i64 (by omega) (by omega))) ?_
 refine lw_v (.int .i64 (((nbits (x).toNat : Int)) - ((nbits (y).toNat : Int)))) (dv_assign (T rfl rfl)) ?_
 refine lw_nil ?_
 refine rk_seq ?_
 refine rk_seq ?_
 refine rk_reg ?_
 refine lw_v (.int .i64 (((nbits (x).toNat : Int)) - ((nbits (y).toNat : Int)))) (dv_move (T rfl rfl)) ?_
 refine lw_v (.bool (decide ((((nbits (x).toNat : Int)) - ((nbits (y).toNat : Int))) < 0))) (dv_lss (a := ((nbits (x).toNat : Int)) - ((nbits (y).toNat : Int))) (b := 0) (T rfl rfl) C) ?_
 refine lw_nil ?_
 by_cases hb8 : (((nbits (x).toNat : Int)) - ((nbits (y).toNat : Int))) < 0
 · refine rk_ct (T rfl (congrArg Value.bool (decide_eq_true hb8))) ?_
   refine rk_seq ?_
   refine rk_reg ?_
   refine lw_v (.slice Aa la ca) (dv_move (T rfl rfl)) ?_
   refine lw_v (.slice none 0 0) (dv_assign C) ?_
   refine lw_v (.slice Aa la ca) (dv_assign (T rfl rfl)) ?_
   refine lw_nil ?_
   refine rk_ret Try.func130 (v := .tuple #[.slice none 0 0, .slice Aa la ca]) (res2 Try.results130 (rv_tmp rfl rfl) (rv_tmp rfl rfl)) ⟨_, rfl, ?_⟩
   have hlt : x.toNat < y.toNat := nbits_mono_lt (by omega)
   have hq0 := Int.ediv_eq_zero_of_lt (a := x) (b := y) hx0 (by omega)
   have hr0 := Int.emod_eq_of_lt (a := x) (b := y) hx0 (by omega)
   have h9 := ((ha.ext e2).ext e6)
   exact ⟨_, _, _, _, _, _, rfl, E7, Wc.zero.eq hq0.symm, h9.eq hr0.symm⟩
 · refine rk_cf (T rfl (congrArg Value.bool (decide_eq_false hb8))) ?_
   refine rk_skip ?_
   refine rk_seq ?_
   obtain ⟨m, hm⟩ := Int.eq_ofNat_of_zero_le (show 0 ≤ ((nbits (x).toNat : Int)) - ((nbits (y).toNat : Int)) by omega)
   have hmb : m ≤ sx := by omega
   have hbs := bits_start (a := x.toNat) (b := y.toNat) (n := m) (by omega) (by omega)
   rw [Int.toNat_of_nonneg hx0, Int.toNat_of_nonneg (Int.le_of_lt hy)] at hbs
   have hleny := Wc.len (by decide) hb hys
   have hlenx := Wc.len (by decide) ha hxs
   refine rk_reg ?_
   refine lw_v (.int .i64 ((m : Int))) (dv_move (T rfl (vi hm))) ?_
   refine lw_v (.int .i64 (((m : Int)) / 32)) (dv_quo (a := (m : Int)) (b := 32) (z := ((m : Int)) / 32) (T rfl rfl) C (by decide) (quo_c (by omega) (by decide) (wr_i64 (by omega) (by omega)))) ?_
   refine lw_v (.int .i64 ((((m : Int)) / 32) + 1)) (dv_add (a := ((m : Int)) / 32) (b := 1) (z := (((m : Int)) / 32) + 1) (T rfl rfl) C (wr_i64 (by omega) (by omega))) ?_
   refine lw_e (oe_makeW (l := (((m) / 32) + 1)) (j := (((m : Int)) / 32) + 1) us86 in168 (T rfl rfl) (T rfl rfl) (by omega) (by first | omega | (simp; done) | (simp; omega)) (by first | omega | (simp; done) | (simp; omega)) ?_)
   intro b10 w11 n12
   have N13 : w.heap.size ≤ b10 := n12.eq ▸ E7.size
   have E14 := below_ext E7 E7.size n12.ext
   refine lw_v (.slice (some ⟨b10, 0, none⟩) ((((m) / 32) + 1)) ((((m) / 32) + 1))) (dv_assign (T rfl rfl)) ?_
   refine lw_nil ?_
   refine rk_seq ?_
   refine rk_reg ?_
   refine lw_v (.slice Aa la ca) (dv_move (T rfl rfl)) ?_
   refine lw_v (.slice Aa la ca) (dv_assign (T rfl rfl)) ?_
   refine lw_nil ?_
   refine rk_seq ?_
   refine rk_seq ?_
   refine rk_reg ?_
   refine lw_v (.int .i64 ((m : Int))) (dv_move (T rfl (vi hm))) ?_
   refine lw_v (.int .i64 ((m : Int))) (dv_assign (T rfl rfl)) ?_
   refine lw_nil ?_
   refine rk_block ?_
   have h15 := (((ha.ext e2).ext e6).ext n12.ext)
   refine rk_loop (fun dm_ fr wl => ∃ (I : Nat) (Q : List Int) (Ar : Option Addr) (lr cr : Nat) (R : Int), dm_ = I ∧ fr 1 = .slice Ab lb cb ∧ fr 4 = .slice none 0 0 ∧ fr 5 = .slice none 0 0 ∧ fr 7 = .slice (some ⟨b10, 0, none⟩) ((((m) / 32) + 1)) ((((m) / 32) + 1)) ∧ fr 8 = .slice Ar lr cr ∧ fr 9 = .int .i64 ((I : Int) - 1) ∧ Below w.heap.size w wl ∧ wl.heap[b10]? = some (.cells (Q.map (Value.int .u32)).toArray 168) ∧ Wc 32 168 .u32 wl Ar lr cr R ∧ (I ≤ m + 1) ∧ (Q.length = m / 32 + 1) ∧ (okW (2 ^ 32) Q) ∧ ((2 : Int) ^ I ∣ valB (2 ^ 32) Q) ∧ (R + y * valB (2 ^ 32) Q = x) ∧ (R < y * 2 ^ I) ∧ (R ≤ x)) (((m + 1))) ⟨(m + 1), (List.replicate ((((m) / 32) + 1)) (0 : Int)), Aa, la, ca, x, rfl, rfl, rfl, rfl, rfl, rfl, (vi (by omega)), E14, n12.blk, h15, (Nat.le_refl _), (by simp), (okW.replicate (by decide) _), (by rw [valB_zeros]; exact Int.dvd_zero _), (by rw [valB_zeros, Int.mul_zero, Int.add_zero]), hbs, (Int.le_refl _)⟩ ?_
   intro d20 fr19 w16 hI17 ih18
   obtain ⟨I, Q, Ar, lr, cr, R, hd30, f21, f22, f23, f24, f25, f26, E27, H28, h29, hI, hQl, hQo, hd, hR, hlt, hRx⟩ := hI17
   have hR0 := h29.nonneg
   have hlr := Wc.len (by decide) h29 (show R < 2 ^ sx by omega)
   have hp := two_pos ((I - 1) % 32)
   have hp2 : (2 : Int) ^ ((I - 1) % 32) ≤ 2 ^ 31 := pow_le_of (by decide) (by omega)
   have bQ := okW.getD hQo (by decide) ((I - 1) / 32)
   have hbz : 1 ≤ I → Q.getD ((I - 1) / 32) 0 % 2 ^ (((I - 1) % 32) + 1) = 0 := fun h => bit_zero hQo (by rw [show I - 1 + 1 = I by omega]; exact hd)
   have hp3 : (2 : Int) ^ (((I - 1) % 32) + 1) = 2 * 2 ^ ((I - 1) % 32) := by rw [Int.pow_succ]; omega
   refine rk_seq ?_
   refine rk_seq ?_
   refine rk_reg ?_
   refine lw_v (.int .i64 ((I : Int) - 1)) (dv_move (T rfl f26)) ?_
   refine lw_v (.bool (decide (0 ≤ ((I : Int) - 1)))) (dv_geq (a := (I : Int) - 1) (b := 0) (T rfl rfl) C) ?_
   refine lw_nil ?_
   by_cases hb31 : 0 ≤ ((I : Int) - 1)
   · refine rk_ct (T rfl (congrArg Value.bool (decide_eq_true hb31))) ?_
     refine rk_skip ?_
     refine rk_seq ?_
     refine rk_block ?_
     refine rk_seq ?_
     refine rk_reg ?_
     refine lw_v (.slice Ab lb cb) (dv_move (T rfl f21)) ?_
     refine lw_v (.int .i64 ((I : Int) - 1)) (dv_move (T rfl f26)) ?_
     have h32 := (hb.ext E27)
     refine lw_e (oe_callf (vs := [.slice Ab lb cb, .int .i64 ((I : Int) - 1)]) co133 (ar2 (T rfl rfl) (T rfl rfl)) (l1Left_ws (N := (I - 1)) (j := (I : Int) - 1) h32.ws (by first | omega | (simp; done) | (simp; omega)) (by first | omega | (simp; done) | (simp; omega)) hys (by omega)) ?_)
     rintro _ w37 ⟨A33, n34, c35, rfl, e38, h36⟩
     have E39 := below_ext E27 E27.size e38
     have lh36 := Wc.len (by decide) h36 (left_sz (m := (I - 1)) (s := sy) rfl hys)
     refine lw_v (.slice A33 n34 c35) (dv_assign (T rfl rfl)) ?_
     refine lw_nil ?_
     refine rk_seq ?_
     refine rk_reg ?_
     refine lw_v (.slice Ar lr cr) (dv_move (T rfl f25)) ?_
     refine lw_v (.slice A33 n34 c35) (dv_move (T rfl rfl)) ?_
     have h40 := (h29.ext e38)
     refine lw_e (oe_callf (vs := [.slice Ar lr cr, .slice A33 n34 c35]) co145 (ar2 (T rfl rfl) (T rfl rfl)) (l1CmpAbs_wc h40 h36 (by first | omega | (simp; done) | (simp; omega)) (by first | omega | (simp; done) | (simp; omega))) ?_)
     rintro _ w43 ⟨r41, rfl, e44, hr42⟩
     have E45 := below_ext E39 E39.size e44
     have qhr42 := cmpR.ge hr42
     have phr42 := cmpR.eq hr42
     have ohr42 := cmpR.gt hr42
     refine lw_v (.bool (decide (0 ≤ r41))) (dv_geq (a := r41) (b := 0) (T rfl rfl) C) ?_
     refine lw_nil ?_
     by_cases hb46 : 0 ≤ r41
     · refine rk_ct (T rfl (congrArg Value.bool (decide_eq_true hb46))) ?_
       refine rk_seq ?_
       have H47 := (e44.blk (e38.blk H28))
       have hbq : b10 < w43.heap.size := lt_of_blk H47
       refine rk_reg ?_
       refine lw_v (.slice Ar lr cr) (dv_move (T rfl f25)) ?_
       refine lw_v (.slice A33 n34 c35) (dv_move (T rfl rfl)) ?_
       have h48 := (h40.ext e44)
       have h49 := (h36.ext e44)
       refine lw_e (oe_callf (vs := [.slice Ar lr cr, .slice A33 n34 c35]) co132 (ar2 (T rfl rfl) (T rfl rfl)) (l1SubAbs_ws h48.ws h49.ws (by first | omega | (simp; done) | (simp; omega)) (by first | omega | (simp; done) | (simp; omega)) (by exact len_le32 h48 h49 (by omega)) (by omega)) ?_)
       rintro _ w54 ⟨A50, n51, c52, rfl, e55, h53, hnh53⟩
       have E56 := below_ext E45 E45.size e55
       refine lw_e (oe_callf (vs := [.bool false, .slice A50 n51 c52]) co131 (ar2 C (T rfl rfl)) (l1Trim_numA (s := sx) (neg := false) h53 (by first | omega | (simp; done) | (simp; omega)) (sz_sub (show R < 2 ^ sx by omega) (Wc.nonneg h49))) ?_)
       rintro _ w64 ⟨nb57, A58, n59, c60, rfl, e65, hn61, hal62⟩
       have E66 := below_ext E56 E56.size e65
       have hfr63 : ∀ (g o : Nat), A58 = some ⟨g, o, none⟩ → w43.heap.size ≤ g := by
        intro g o h
        rcases hal62 with h2 | h2
        · rw [h2] at h; cases h
        · exact hnh53.2 g o (h2 ▸ h)
       have lhn61 := Num.len (by decide) hn61
       refine lw_v (.slice A58 n59 c60) (dv_field (v := .slice A58 n59 c60) fb88_1 agt86 (T rfl rfl) rfl) ?_
       refine lw_v (.slice A58 n59 c60) (dv_assign (T rfl rfl)) ?_
       refine lw_nil ?_
       refine rk_reg ?_
       refine lw_v (.slice (some ⟨b10, 0, none⟩) ((((m) / 32) + 1)) ((((m) / 32) + 1))) (dv_move (T rfl f24)) ?_
       refine lw_v (.int .i64 ((I : Int) - 1)) (dv_move (T rfl f26)) ?_
       refine lw_v (.int .i64 (((I : Int) - 1) / 32)) (dv_quo (a := (I : Int) - 1) (b := 32) (z := ((I : Int) - 1) / 32) (T rfl rfl) C (by decide) (quo_c (by omega) (by decide) (wr_i64 (by omega) (by omega)))) ?_
       refine lw_v (.slice (some ⟨b10, 0, none⟩) ((((m) / 32) + 1)) ((((m) / 32) + 1))) (dv_move (T rfl f24)) ?_
       refine lw_v (.int .i64 ((I : Int) - 1)) (dv_move (T rfl f26)) ?_
       refine lw_v (.int .i64 (((I : Int) - 1) / 32)) (dv_quo (a := (I : Int) - 1) (b := 32) (z := ((I : Int) - 1) / 32) (T rfl rfl) C (by decide) (quo_c (by omega) (by decide) (wr_i64 (by omega) (by omega)))) ?_
       refine lw_v (.pointer (some ⟨b10, (((I - 1) / 32)), none⟩)) (dv_indexO (g := b10) (l := (((m) / 32) + 1)) (c := (((m) / 32) + 1)) (i := ((I - 1) / 32)) (j := ((I : Int) - 1) / 32) us86 sz168 (T rfl rfl) (T rfl rfl) (by omega) (by first | omega | (simp; done) | (simp; omega))) ?_
       have H67 := (e65.blk (e55.blk H47))
       refine lw_v (.int .u32 (Q.getD (((I - 1) / 32)) 0)) (dv_loadW (L := Q) (v := Q.getD (((I - 1) / 32)) 0) agt168 (T rfl rfl) H67 (by first | omega | (simp; done) | (simp; omega)) rfl) ?_
       refine lw_v (.int .i64 ((I : Int) - 1)) (dv_move (T rfl f26)) ?_
       refine lw_v (.int .i64 (((I : Int) - 1) % 32)) (dv_rem (a := (I : Int) - 1) (b := 32) (z := ((I : Int) - 1) % 32) (T rfl rfl) C (by decide) (rem_c (by omega) rfl)) ?_
       refine lw_v (.int .u64 (((I : Int) - 1) % 32)) (dv_conv (a := ((I : Int) - 1) % 32) (z := ((I : Int) - 1) % 32) ui2 ui158 (T rfl rfl) (wn_u64 (by omega) (by omega))) ?_
       refine lw_v (.int .u32 (1 * 2 ^ (((I - 1) % 32)))) (dv_shl (a := 1) (b := ((I : Int) - 1) % 32) (z := 1 * 2 ^ (((I - 1) % 32))) C (T rfl rfl) (by omega) (shl_w (K := ((I - 1) % 32)) (by omega) (show _ ≤ 32 by omega) (wn_u32 (by omega) (by omega)))) ?_
       refine lw_v (.int .u32 ((Q.getD (((I - 1) / 32)) 0) + (1 * 2 ^ (((I - 1) % 32))))) (dv_or (a := Q.getD (((I - 1) / 32)) 0) (b := 1 * 2 ^ (((I - 1) % 32))) (z := (Q.getD (((I - 1) / 32)) 0) + (1 * 2 ^ (((I - 1) % 32)))) (T rfl rfl) (T rfl rfl) ((or_add (k := .u32) (a := 1 * 2 ^ (((I - 1) % 32))) (b := Q.getD (((I - 1) / 32)) 0) (i := ((I - 1) % 32) + 1) rfl (by omega) (by omega) bQ.1 (hbz (by omega)) (lt32 (by omega)) (lt32 (by omega))).2.trans (Int.add_comm _ _))) ?_
       refine lw_v (.pointer (some ⟨b10, (((I - 1) / 32)), none⟩)) (dv_indexO (g := b10) (l := (((m) / 32) + 1)) (c := (((m) / 32) + 1)) (i := ((I - 1) / 32)) (j := ((I : Int) - 1) / 32) us86 sz168 (T rfl rfl) (T rfl rfl) (by omega) (by first | omega | (simp; done) | (simp; omega))) ?_
       refine lw_e (oe_storeW (L := Q) (i := ((I - 1) / 32)) (z := (Q.getD (((I - 1) / 32)) 0) + (1 * 2 ^ (((I - 1) % 32)))) sz168 (T rfl rfl) (T rfl rfl) H67 (by first | omega | (simp; done) | (simp; omega)) ?_)
       intro w68 s69 H70
       have E71 := below_st E66 N13 s69
       refine lw_nil ?_
       refine rk_inBlock ?_
       refine rk_reg ?_
       refine lw_v (.int .i64 ((I : Int) - 1)) (dv_move (T rfl f26)) ?_
       refine lw_v (.int .i64 (((I : Int) - 1) - 1)) (dv_sub (a := (I : Int) - 1) (b := 1) (z := ((I : Int) - 1) - 1) (T rfl rfl) C (wr_i64 (by omega) (by omega))) ?_
       refine lw_v (.int .i64 (((I : Int) - 1) - 1)) (dv_assign (T rfl rfl)) ?_
       refine lw_nil ?_
       have h72 := (hn61.stO s69 (fun g o h => by have := (hfr63) g o h; omega))
       have hpy : 0 ≤ 2 ^ (I - 1) * y := Int.mul_nonneg (Int.le_of_lt (two_pos _)) (Int.le_of_lt hy)
       exact ih18 (((I - 1))) _ _ (by rw [hd30]; omega) ⟨(I - 1), (Q.set (((I - 1) / 32)) ((Q.getD (((I - 1) / 32)) 0) + (1 * 2 ^ (((I - 1) % 32))))), A58, n59, c60, (R - 2 ^ (I - 1) * y), rfl, f21, f22, f23, f24, rfl, (vi (by omega)), E71, H70, (Wc.eq h72.wc (sg_natAbs (by omega))), (by omega), (by simp [hQl]), (okW.set hQo (by omega) (by rw [Int.one_mul]; exact bit_room bQ.1 bQ.2 (hbz (by omega)) (by omega)) _), (by rw [Int.one_mul]; exact bit_dvd (by omega) (by rw [show I - 1 + 1 = I by omega]; exact hd)), (by rw [Int.one_mul]; exact bit_set (by omega) hR), (bit_lt (by rw [show I - 1 + 1 = I by omega]; exact hlt)), (by omega)⟩
     · refine rk_cf (T rfl (congrArg Value.bool (decide_eq_false hb46))) ?_
       refine rk_skip ?_
       refine rk_inBlock ?_
       refine rk_reg ?_
       refine lw_v (.int .i64 ((I : Int) - 1)) (dv_move (T rfl f26)) ?_
       refine lw_v (.int .i64 (((I : Int) - 1) - 1)) (dv_sub (a := (I : Int) - 1) (b := 1) (z := ((I : Int) - 1) - 1) (T rfl rfl) C (wr_i64 (by omega) (by omega))) ?_
       refine lw_v (.int .i64 (((I : Int) - 1) - 1)) (dv_assign (T rfl rfl)) ?_
       refine lw_nil ?_
       have h73 := (h40.ext e44)
       have H74 := (e44.blk (e38.blk H28))
       exact ih18 (((I - 1))) _ _ (by rw [hd30]; omega) ⟨(I - 1), Q, Ar, lr, cr, R, rfl, f21, f22, f23, f24, f25, (vi (by omega)), E45, H74, h73, (by omega), hQl, hQo, (bit_dvd0 (by rw [show I - 1 + 1 = I by omega]; exact hd)), hR, (by rw [Int.mul_comm y]; omega), hRx⟩
   · refine rk_cf (T rfl (congrArg Value.bool (decide_eq_false hb31))) ?_
     refine rk_exit rfl ?_
     refine rk_seq ?_
     refine rk_reg ?_
     refine lw_v (.slice (some ⟨b10, 0, none⟩) ((((m) / 32) + 1)) ((((m) / 32) + 1))) (dv_move (T rfl f24)) ?_
     refine lw_e (oe_callf (vs := [.bool false, .slice (some ⟨b10, 0, none⟩) ((((m) / 32) + 1)) ((((m) / 32) + 1))]) co131 (ar2 C (T rfl rfl)) (l1Trim_numA (s := (32 * ((((m) / 32) + 1)))) (neg := false) (⟨Q, (by first | (simp; done) | (simp; omega) | omega), (by first | (simp; done) | (simp; omega) | omega), Wd.ownW H28, hQo, rfl⟩ : Ws _ _ _ _ _ _ _ _) (by first | omega | (simp; done) | (simp; omega)) (valB_sz hQo (by first | (simp; done) | (simp; omega) | omega))) ?_)
     rintro _ w81 ⟨nb75, A76, n77, c78, rfl, e82, hn79, hal80⟩
     have E83 := below_ext E27 E27.size e82
     have lhn79 := Num.len (by decide) hn79
     refine lw_v (.slice A76 n77 c78) (dv_field (v := .slice A76 n77 c78) fb88_1 agt86 (T rfl rfl) rfl) ?_
     refine lw_v (.slice Ar lr cr) (dv_move (T rfl f25)) ?_
     refine lw_v (.slice A76 n77 c78) (dv_assign (T rfl rfl)) ?_
     refine lw_v (.slice Ar lr cr) (dv_assign (T rfl rfl)) ?_
     refine lw_nil ?_
     refine rk_ret Try.func130 (v := .tuple #[.slice A76 n77 c78, .slice Ar lr cr]) (res2 Try.results130 (rv_tmp rfl rfl) (rv_tmp rfl rfl)) ⟨_, rfl, ?_⟩
     have hI0 : I = 0 := by omega
     rw [hI0, Int.pow_zero, Int.mul_one] at hlt
     have hdv := div_of hR hR0 hlt
     have h84 := (h29.ext e82)
     exact ⟨_, _, _, _, _, _, rfl, E83, Wc.eq hn79.wc (by rw [sg_natAbs (valB_nonneg (by decide) hQo)]; exact hdv.1), Wc.eq h84 hdv.2⟩
end Go.Proofs.Ytmbpomcbdopgnaa.W
set_option linter.unusedVariables false
set_option linter.unusedSimpArgs false
namespace Go.Proofs.Ytmbpomcbdopgnaa.W
open Go Go.RowKit Go.Proofs.Ytmbpomcbdopgnaa.Fw
attribute [local irreducible] RunK LW AW DV OE Ct
theorem co130 : callOk Try.prog 130 = true := by kernel_rfl
theorem co135 : callOk Try.prog 135 = true := by kernel_rfl
theorem co99 : callOk Try.prog 99 = true := by kernel_rfl
end Go.Proofs.Ytmbpomcbdopgnaa.W
