/- Walks and plain mathematics, packed by a program of this session: declarations that the rows reach. -/
import Derived.Test.YtdanhdbanfpghaaQHitAtd
set_option linter.unusedVariables false
set_option linter.unusedSimpArgs false
namespace Go.Proofs.Ytdanhdbanfpghaa.W
open Go Go.RowKit Go.Proofs.Ytdanhdbanfpghaa.Fw
attribute [local irreducible] RunK LW AW DV OE Ct
theorem us197 : Try.prog.underlying 197 = some (.slice 120) := by kernel_rfl
set_option maxHeartbeats 1000000 in
theorem l1Gcd_ok {w : World} {na : Bool} {Aa : Option Addr} {la ca : Nat} {x : Int} {sx : Nat} (ha : Num 32 183 .u32 w na Aa la ca x sx) {nb : Bool} {Ab : Option Addr} {lb cb : Nat} {y : Int} {sy : Nat} (hb : Num 32 183 .u32 w nb Ab lb cb y sy) (hs : sx ≤ 200000) (hs2 : sy ≤ 200000) : Ct Try.prog 129 [.agg #[.bool na, .slice Aa la ca], .agg #[.bool nb, .slice Ab lb cb]] w fun v w1 => ∃ nr A' n c', v = .agg #[.bool nr, .slice A' n c'] ∧ Ext w w1 ∧ Num 32 183 .u32 w1 nr A' n c' (gI x y) (max sx sy) := by
 refine ct_run (n := 26) Try.func129 rfl Try.ntmps129 rfl ?_
 have E0 : Below w.heap.size w w := Below.refl _ _
 have lha := Num.len (by decide) ha
 have lhb := Num.len (by decide) hb
 refine rk_seq ?_
 refine rk_reg ?_
 refine lw_e (oe_box (v := .agg #[.bool na, .slice Aa la ca]) (cs := #[.bool na, .slice Aa la ca]) (T rfl rfl) rfl ?_)
 intro b1 w2 n3
 have N4 : w.heap.size ≤ b1 := n3.eq ▸ E0.size
 have E5 := below_ext E0 E0.size n3.ext
 refine lw_e (oe_box (v := .agg #[.bool nb, .slice Ab lb cb]) (cs := #[.bool nb, .slice Ab lb cb]) (T rfl rfl) rfl ?_)
 intro b6 w7 n8
 have N9 : w.heap.size ≤ b6 := n8.eq ▸ E5.size
 have : b1 < b6 := n8.eq ▸ lt_of_blk n3.blk
 have E10 := below_ext E5 E5.size n8.ext
 refine lw_e (oe_alloc ze100 ?_)
 intro b11 w12 n13
 have N14 : w.heap.size ≤ b11 := n13.eq ▸ E10.size
 have : b6 < b11 := n13.eq ▸ lt_of_blk n8.blk
 have E15 := below_ext E10 E10.size n13.ext
 refine lw_nil ?_
 refine rk_seq ?_
 refine rk_reg ?_
 refine lw_v (.pointer (some ⟨b1, 1, none⟩)) (dv_fieldAddr (a := ⟨b1, 0, none⟩) (a' := ⟨b1, 1, none⟩) fo100_1 (T rfl rfl) rfl) ?_
 have H16 := (n13.ext.blk (n8.ext.blk n3.blk))
 refine lw_v (.slice Aa la ca) (dv_load1 (b := b1) (o := 1) agt98 (T rfl rfl) H16 rfl) ?_
 refine lw_v (.slice Aa la ca) (dv_assign (T rfl rfl)) ?_
 refine lw_nil ?_
 refine rk_seq ?_
 refine rk_reg ?_
 refine lw_v (.pointer (some ⟨b6, 1, none⟩)) (dv_fieldAddr (a := ⟨b6, 0, none⟩) (a' := ⟨b6, 1, none⟩) fo100_1 (T rfl rfl) rfl) ?_
 have H17 := (n13.ext.blk n8.blk)
 refine lw_v (.slice Ab lb cb) (dv_load1 (b := b6) (o := 1) agt98 (T rfl rfl) H17 rfl) ?_
 refine lw_v (.slice Ab lb cb) (dv_assign (T rfl rfl)) ?_
 refine lw_nil ?_
 refine rk_seq ?_
 refine rk_block ?_
 have h26 := (((ha.ext n3.ext).ext n8.ext).ext n13.ext)
 have h27 := (((hb.ext n3.ext).ext n8.ext).ext n13.ext)
 refine rk_loop (fun dm_ fr wl => ∃ (Ax18 : Option Addr) (lx19 cx20 : Nat) (Ay21 : Option Addr) (ly22 cy23 : Nat) (X24 Y25 : Int), dm_ = Y25.toNat ∧ fr 4 = .pointer (some ⟨b11, 0, none⟩) ∧ fr 5 = .slice Ax18 lx19 cx20 ∧ fr 6 = .slice Ay21 ly22 cy23 ∧ Below w.heap.size w wl ∧ wl.heap[b1]? = some (.cells #[.bool na, .slice Aa la ca] 100) ∧ wl.heap[b6]? = some (.cells #[.bool nb, .slice Ab lb cb] 100) ∧ wl.heap[b11]? = some (.cells #[.bool false, .slice none 0 0] 100) ∧ Wc 32 183 .u32 wl Ax18 lx19 cx20 X24 ∧ Wc 32 183 .u32 wl Ay21 ly22 cy23 Y25 ∧ (gI X24 Y25 = gI ((x.natAbs : Int)) ((y.natAbs : Int))) ∧ (X24 < 2 ^ (max sx sy)) ∧ (Y25 < 2 ^ (max sx sy))) ((((y.natAbs : Int))).toNat) ⟨Aa, la, ca, Ab, lb, cb, ((x.natAbs : Int)), ((y.natAbs : Int)), rfl, rfl, rfl, rfl, E15, H16, H17, n13.blk, h26.wc, h27.wc, rfl, (Int.lt_of_lt_of_le h26.ltI (pow_le_of (by decide) (by omega))), (Int.lt_of_lt_of_le h27.ltI (pow_le_of (by decide) (by omega)))⟩ ?_
 intro d32 fr31 w28 hI29 ih30
 obtain ⟨Ax18, lx19, cx20, Ay21, ly22, cy23, X24, Y25, hd42, f33, f34, f35, E36, H37, H38, H39, h40, h41, hgc, hXs, hYs⟩ := hI29
 have hXp := h40.nonneg
 have hYp := h41.pos
 have hYn := h41.nonneg
 have hlx := Wc.len (by decide) h40 hXs
 have hly := Wc.len (by decide) h41 hYs
 refine rk_seq ?_
 refine rk_seq ?_
 refine rk_reg ?_
 refine lw_v (.slice Ay21 ly22 cy23) (dv_move (T rfl f35)) ?_
 refine lw_v (.int .i64 ((ly22 : Int))) (dv_len (ad := Ay21) (l := ly22) (c := cy23) us98 (T rfl rfl)) ?_
 refine lw_v (.bool (decide (0 < ((ly22 : Int))))) (dv_gtr (a := (ly22 : Int)) (b := 0) (T rfl rfl) C) ?_
 refine lw_nil ?_
 by_cases hb43 : 0 < ((ly22 : Int))
 · refine rk_ct (T rfl (congrArg Value.bool (decide_eq_true hb43))) ?_
   refine rk_skip ?_
   refine rk_block ?_
   refine rk_seq ?_
   refine rk_reg ?_
   refine lw_v (.slice Ax18 lx19 cx20) (dv_move (T rfl f34)) ?_
   refine lw_v (.slice Ay21 ly22 cy23) (dv_move (T rfl f35)) ?_
   refine lw_e (oe_callf (vs := [.slice Ax18 lx19 cx20, .slice Ay21 ly22 cy23]) co168 (ar2 (T rfl rfl) (T rfl rfl)) (l1DivAbs_ok h40 h41 (by omega) hXs hYs (by omega) (by omega)) ?_)
   rintro _ w52 ⟨A44, n45, c46, A47, n48, c49, rfl, e53, h50, h51⟩
   have E54 := below_ext E36 E36.size e53
   have lh50 := Wc.len (by decide) h50 (div_sz (Wc.nonneg h40) (by omega) hXs)
   have lh51 := Wc.len (by decide) h51 (mod_sz (by omega) hYs)
   refine lw_v (.tuple #[.slice A44 n45 c46, .slice A47 n48 c49]) (dv_move (T rfl rfl)) ?_
   refine lw_v (.slice A44 n45 c46) (dv_extract (vs := #[.slice A44 n45 c46, .slice A47 n48 c49]) (T rfl rfl) rfl) ?_
   refine lw_v (.slice A47 n48 c49) (dv_extract (vs := #[.slice A44 n45 c46, .slice A47 n48 c49]) (T rfl rfl) rfl) ?_
   refine lw_v (.slice A44 n45 c46) (dv_assign (T rfl rfl)) ?_
   refine lw_v (.slice A47 n48 c49) (dv_assign (T rfl rfl)) ?_
   refine lw_nil ?_
   refine rk_reg ?_
   refine lw_v (.slice Ay21 ly22 cy23) (dv_move (T rfl f35)) ?_
   refine lw_v (.slice A47 n48 c49) (dv_move (T rfl rfl)) ?_
   refine lw_v (.slice Ay21 ly22 cy23) (dv_assign (T rfl rfl)) ?_
   refine lw_v (.slice A47 n48 c49) (dv_assign (T rfl rfl)) ?_
   refine lw_nil ?_
   refine rk_inBlock ?_
   have h55 := (h41.ext e53)
   have hml := Int.emod_lt_of_pos X24 (hYp.1 (by omega))
   have hmn := Int.emod_nonneg X24 (show Y25 ≠ 0 by omega)
   have H56 := (e53.blk H37)
   have H57 := (e53.blk H38)
   have H58 := (e53.blk H39)
   exact ih30 (((X24 % Y25)).toNat) _ _ (by rw [hd42]; omega) ⟨Ay21, ly22, cy23, A47, n48, c49, Y25, (X24 % Y25), rfl, f33, rfl, rfl, E54, H56, H57, H58, h55, h51, (by rw [gI_step]; exact hgc), hYs, (by omega)⟩
 · refine rk_cf (T rfl (congrArg Value.bool (decide_eq_false hb43))) ?_
   refine rk_exit rfl ?_
   refine rk_seq ?_
   refine rk_reg ?_
   refine lw_v (.slice Ax18 lx19 cx20) (dv_move (T rfl f34)) ?_
   refine lw_e (oe_callf (vs := [.bool false, .slice Ax18 lx19 cx20]) co153 (ar2 C (T rfl rfl)) (l1Trim_num (s := (max sx sy)) (neg := false) h40.ws (by first | omega | (simp; done) | (simp; omega)) hXs) ?_)
   rintro _ w64 ⟨nb59, A60, n61, c62, rfl, e65, hn63⟩
   have E66 := below_ext E36 E36.size e65
   have lhn63 := Num.len (by decide) hn63
   have H67 := (e65.blk H39)
   refine lw_e (oe_store (v := .agg #[.bool nb59, .slice A60 n61 c62]) (vs := [.bool nb59, .slice A60 n61 c62]) (l := [.bool nb59, .slice A60 n61 c62]) (T rfl f33) (T rfl rfl) sz100 rfl rfl rfl H67 rfl ?_)
   intro w68 s69 H70
   have E71 := below_st E66 N14 s69
   refine lw_nil ?_
   refine rk_ret Try.func129 (v := .agg #[.bool nb59, .slice A60 n61 c62]) (res1 Try.results129 (rv_cells (l := [.bool nb59, .slice A60 n61 c62]) agt100 sz100 rfl f33 H70 rfl)) ⟨_, rfl, ?_⟩
   have h72 := (hn63.st s69 H67 (by decide))
   have hY0 : Y25 = 0 := by omega
   rw [hY0, gI_zero, gI_abs] at hgc
   exact ⟨_, _, _, _, rfl, E71, h72.to (by simp only [sg]; simp; omega) (Nat.le_refl _)⟩
set_option maxHeartbeats 1000000 in
theorem gcd3_ok {w : World} {bl : Nat} {na : Bool} {Aa : Option Addr} {la ca : Nat} {x : Int} {sx : Nat} (ha : Num 64 29 .u64 w na Aa la ca x sx) {nb : Bool} {Ab : Option Addr} {lb cb : Nat} {y : Int} {sy : Nat} (hb : Num 64 29 .u64 w nb Ab lb cb y sy) {nm : Bool} {Am : Option Addr} {lm cm : Nat} {z : Int} {sz : Nat} (hm : Num 64 29 .u64 w nm Am lm cm z sz) (hsx : sx ≤ 200000) (hsy : sy ≤ 200000) (hsz : sz ≤ 200000) (hL : w.heap[bl]? = some (.cells #[.bool na, .slice Aa la ca, .bool nb, .slice Ab lb cb, .bool nm, .slice Am lm cm] 120)) : Ct Try.prog 134 [.slice (some ⟨bl, 0, none⟩) 3 3] w fun v w1 => ∃ nr A' n c', v = .agg #[.bool nr, .slice A' n c'] ∧ Ext w w1 ∧ Num 64 29 .u64 w1 nr A' n c' (gI3 x y z) (max sx (max sy sz)) := by
 refine ct_run (n := 37) Try.func134 rfl Try.ntmps134 rfl ?_
 have E0 : Below w.heap.size w w := Below.refl _ _
 have lha := Num.len (by decide) ha
 have lhb := Num.len (by decide) hb
 have lhm := Num.len (by decide) hm
 refine rk_seq ?_
 refine rk_reg ?_
 refine lw_e (oe_alloc ze120 ?_)
 intro b1 w2 n3
 have N4 : w.heap.size ≤ b1 := n3.eq ▸ E0.size
 have : bl < b1 := n3.eq ▸ lt_of_blk hL
 have E5 := below_ext E0 E0.size n3.ext
 refine lw_nil ?_
 refine rk_seq ?_
 refine rk_reg ?_
 refine lw_v (.agg #[.bool false, .slice none 0 0]) (dv_build (pv := []) (l := [.bool false, .slice none 0 0]) zc120 pl120 trivial rfl) ?_
 refine lw_e (oe_alloc ze120 ?_)
 intro b6 w7 n8
 have N9 : w.heap.size ≤ b6 := n8.eq ▸ E5.size
 have : b1 < b6 := n8.eq ▸ lt_of_blk n3.blk
 have E10 := below_ext E5 E5.size n8.ext
 refine lw_e (oe_store (v := .agg #[.bool false, .slice none 0 0]) (vs := [.bool false, .slice none 0 0]) (l := [.bool false, .slice none 0 0]) (T rfl rfl) (T rfl rfl) sz120 rfl rfl rfl n8.blk rfl ?_)
 intro w11 s12 H13
 have E14 := below_st E10 N9 s12
 refine lw_nil ?_
 refine rk_seq ?_
 refine rk_seq ?_
 refine rk_reg ?_
 refine lw_v (.slice (some ⟨bl, 0, none⟩) 3 3) (dv_move (T rfl rfl)) ?_
 refine lw_v (.int .i64 3) (dv_len (ad := some ⟨bl, 0, none⟩) (l := 3) (c := 3) us197 (T rfl rfl)) ?_
 refine lw_v (.int .i64 0) (dv_move C) ?_
 refine lw_nil ?_
 refine rk_block ?_
 refine rk_unroll ?_
 refine rk_seq ?_
 refine rk_reg ?_
 refine lw_v (.bool (decide (((0 : Int) < 3 : Prop)))) (dv_lss (a := 0) (b := 3) (T rfl rfl) (T rfl rfl)) ?_
 refine lw_nil ?_
 refine rk_seq ?_
 refine rk_ct (T rfl (rfl)) ?_
 refine rk_skip ?_
 refine rk_seq ?_
 refine rk_block ?_
 refine rk_seq ?_
 refine rk_reg ?_
 refine lw_v (.pointer (some ⟨bl, 0, none⟩)) (dv_indexAddr (a := ⟨bl, 0, none⟩) (a' := ⟨bl, 0, none⟩) (l := 3) (c := 3) (j := 0) us197 sz120 (T rfl rfl) (T rfl rfl) (by decide) (by decide) rfl) ?_
 have H15 := (s12.blk (n8.ext.blk (n3.ext.blk hL)) (by omega))
 refine lw_v (.agg #[.bool na, .slice Aa la ca]) (dv_loads (l := [.bool na, .slice Aa la ca]) agt120 sz120 (T rfl rfl) H15 rfl) ?_
 refine lw_e (oe_alloc ze120 ?_)
 intro b16 w17 n18
 have N19 : w.heap.size ≤ b16 := n18.eq ▸ E14.size
 have : b6 < b16 := n18.eq ▸ lt_of_blk H13
 have E20 := below_ext E14 E14.size n18.ext
 refine lw_e (oe_store (v := .agg #[.bool na, .slice Aa la ca]) (vs := [.bool na, .slice Aa la ca]) (l := [.bool na, .slice Aa la ca]) (T rfl rfl) (T rfl rfl) sz120 rfl rfl rfl n18.blk rfl ?_)
 intro w21 s22 H23
 have E24 := below_st E20 N19 s22
 refine lw_nil ?_
 refine rk_seq ?_
 refine rk_any (fun w => w.heap[b6]? = some (.cells #[.bool false, .slice none 0 0] 120) ∧ w.heap[b16]? = some (.cells #[.bool na, .slice Aa la ca] 120)) [5] mo ?_
 intro w25 d26
 have E27 := below_ext E24 E24.size d26.ext
 have H28 := (d26.ext.blk (s22.blk (n18.ext.blk H13) (by omega)))
 have H29 := (d26.ext.blk H23)
 refine aw_pure 0 (.pointer (some ⟨b6, 1, none⟩)) rfl (by kernel_rfl) .none ⟨H28, H29⟩ (fun _ => dv_fieldAddr (a := ⟨b6, 0, none⟩) (a' := ⟨b6, 1, none⟩) fo120_1 (T rfl rfl) rfl) ?_
 refine aw_load 1 (.slice none 0 0) rfl (by kernel_rfl) .none ⟨H28, H29⟩ (fun _ s => dv_load1 (b := b6) (o := 1) agt118 (T rfl rfl) s.1 rfl) ?_
 refine aw_pure 2 (.pointer (some ⟨b16, 1, none⟩)) rfl (by kernel_rfl) .none ⟨H28, H29⟩ (fun _ => dv_fieldAddr (a := ⟨b16, 0, none⟩) (a' := ⟨b16, 1, none⟩) fo120_1 (T rfl rfl) rfl) ?_
 refine aw_load 3 (.slice Aa la ca) rfl (by kernel_rfl) .none ⟨H28, H29⟩ (fun _ s => dv_load1 (b := b16) (o := 1) agt118 (T rfl rfl) s.2 rfl) ?_
 refine aw_pure 4 (.slice none 0 0) rfl (by kernel_rfl) .none ⟨H28, H29⟩ (fun _ => dv_assign (T rfl rfl)) ?_
 refine aw_last 5 (.slice Aa la ca) rfl (by kernel_rfl) .none (fun _ => dv_assign (T rfl rfl)) ?_
 refine aw_done (by kernel_rfl) ?_
 refine rk_seq ?_
 refine rk_block ?_
 have h38 := ha.ext E27
 have H39 := (d26.ext.blk (s22.blk (n18.ext.blk H15) (by omega)))
 have H40 := (d26.ext.blk (s22.blk (n18.ext.blk (s12.blk (n8.ext.blk n3.blk) (by omega))) (by omega)))
 refine rk_loop (fun dm_ fr wl => ∃ (Ax30 : Option Addr) (lx31 cx32 : Nat) (Ay33 : Option Addr) (ly34 cy35 : Nat) (X36 Y37 : Int), dm_ = Y37.toNat ∧ fr 2 = .pointer (some ⟨b1, 0, none⟩) ∧ fr 3 = .pointer (some ⟨b6, 0, none⟩) ∧ fr 5 = .pointer (some ⟨b16, 0, none⟩) ∧ fr 6 = .slice Ax30 lx31 cx32 ∧ fr 7 = .slice Ay33 ly34 cy35 ∧ fr 11 = .slice (some ⟨bl, 0, none⟩) 3 3 ∧ fr 12 = .int .i64 3 ∧ fr 13 = .int .i64 0 ∧ fr 14 = .bool (decide (((0 : Int) < 3 : Prop))) ∧ fr 15 = .pointer (some ⟨bl, 0, none⟩) ∧ fr 16 = .agg #[.bool na, .slice Aa la ca] ∧ fr 17 = .pointer (some ⟨b6, 1, none⟩) ∧ fr 18 = .slice none 0 0 ∧ fr 19 = .pointer (some ⟨b16, 1, none⟩) ∧ fr 20 = .slice Aa la ca ∧ Below w.heap.size w wl ∧ wl.heap[bl]? = some (.cells #[.bool na, .slice Aa la ca, .bool nb, .slice Ab lb cb, .bool nm, .slice Am lm cm] 120) ∧ wl.heap[b1]? = some (.cells #[.bool false, .slice none 0 0] 120) ∧ wl.heap[b6]? = some (.cells #[.bool false, .slice none 0 0] 120) ∧ wl.heap[b16]? = some (.cells #[.bool na, .slice Aa la ca] 120) ∧ Wc 64 29 .u64 wl Ax30 lx31 cx32 X36 ∧ Wc 64 29 .u64 wl Ay33 ly34 cy35 Y37 ∧ (gI X36 Y37 = gI 0 ((x.natAbs : Int))) ∧ (X36 < 2 ^ (max sx (max sy sz))) ∧ (Y37 < 2 ^ (max sx (max sy sz)))) ((((x.natAbs : Int))).toNat) ⟨none, 0, 0, Aa, la, ca, 0, ((x.natAbs : Int)), rfl, rfl, rfl, rfl, rfl, rfl, rfl, rfl, rfl, rfl, rfl, rfl, rfl, rfl, rfl, rfl, E27, H39, H40, H28, H29, Wc.zero, h38.wc, rfl, (two_pos _), (Int.lt_of_lt_of_le h38.ltI (pow_le_of (by decide) (by omega)))⟩ ?_
 intro d45 fr44 w41 hI42 ih43
 obtain ⟨Ax30, lx31, cx32, Ay33, ly34, cy35, X36, Y37, hd68, f46, f47, f48, f49, f50, f51, f52, f53, f54, f55, f56, f57, f58, f59, f60, E61, H62, H63, H64, H65, h66, h67, hgc, hXs, hYs⟩ := hI42
 have hXp := h66.nonneg
 have hYp := h67.pos
 have hYn := h67.nonneg
 have hlx := Wc.len (by decide) h66 hXs
 have hly := Wc.len (by decide) h67 hYs
 refine rk_seq ?_
 refine rk_seq ?_
 refine rk_reg ?_
 refine lw_v (.slice Ay33 ly34 cy35) (dv_move (T rfl f50)) ?_
 refine lw_v (.int .i64 ((ly34 : Int))) (dv_len (ad := Ay33) (l := ly34) (c := cy35) us118 (T rfl rfl)) ?_
 refine lw_v (.bool (decide (0 < ((ly34 : Int))))) (dv_gtr (a := (ly34 : Int)) (b := 0) (T rfl rfl) C) ?_
 refine lw_nil ?_
 by_cases hb69 : 0 < ((ly34 : Int))
 · refine rk_ct (T rfl (congrArg Value.bool (decide_eq_true hb69))) ?_
   refine rk_skip ?_
   refine rk_block ?_
   refine rk_seq ?_
   refine rk_reg ?_
   refine lw_v (.slice Ax30 lx31 cx32) (dv_move (T rfl f49)) ?_
   refine lw_v (.slice Ay33 ly34 cy35) (dv_move (T rfl f50)) ?_
   refine lw_e (oe_callf (vs := [.slice Ax30 lx31 cx32, .slice Ay33 ly34 cy35]) co171 (ar2 (T rfl rfl) (T rfl rfl)) (divWords_ok h66 h67 (by omega) (by first | omega | (simp; done) | (simp; omega)) (by first | omega | (simp; done) | (simp; omega))) ?_)
   rintro _ w78 ⟨A70, n71, c72, A73, n74, c75, rfl, e79, h76, h77⟩
   have E80 := below_ext E61 E61.size e79
   have lh76 := Wc.len (by decide) h76 (div_sz (Wc.nonneg h66) (by omega) hXs)
   have lh77 := Wc.len (by decide) h77 (mod_sz (by omega) hYs)
   refine lw_v (.tuple #[.slice A70 n71 c72, .slice A73 n74 c75]) (dv_move (T rfl rfl)) ?_
   refine lw_v (.slice A70 n71 c72) (dv_extract (vs := #[.slice A70 n71 c72, .slice A73 n74 c75]) (T rfl rfl) rfl) ?_
   refine lw_v (.slice A73 n74 c75) (dv_extract (vs := #[.slice A70 n71 c72, .slice A73 n74 c75]) (T rfl rfl) rfl) ?_
   refine lw_v (.slice A70 n71 c72) (dv_assign (T rfl rfl)) ?_
   refine lw_v (.slice A73 n74 c75) (dv_assign (T rfl rfl)) ?_
   refine lw_nil ?_
   refine rk_reg ?_
   refine lw_v (.slice Ay33 ly34 cy35) (dv_move (T rfl f50)) ?_
   refine lw_v (.slice A73 n74 c75) (dv_move (T rfl rfl)) ?_
   obtain ⟨xs81, hl82, hc83, hw84, ho85, hk86, hv87⟩ := h77
   have H88 := (e79.blk H62)
   have : bl < w78.heap.size := lt_of_blk H88
   have H89 := (e79.blk H63)
   have : b1 < w78.heap.size := lt_of_blk H89
   have H90 := (e79.blk H64)
   have : b6 < w78.heap.size := lt_of_blk H90
   have H91 := (e79.blk H65)
   have : b16 < w78.heap.size := lt_of_blk H91
   have N92 : w.heap.size ≤ w78.heap.size := E80.size
   refine lw_e (oe_callf (vs := [.slice A73 n74 c75]) co172 (ar1 (T rfl rfl)) (clone_ok hw84 hl82 (by first | omega | (simp; done) | (simp; omega))) ?_)
   rintro _ w96 ⟨Ad93, c94, rfl, e97, hO95⟩
   have E98 := below_ext E80 E80.size e97
   refine lw_v (.slice Ay33 ly34 cy35) (dv_assign (T rfl rfl)) ?_
   refine lw_v (.slice Ad93 (xs81.length) c94) (dv_assign (T rfl rfl)) ?_
   refine lw_nil ?_
   refine rk_inBlock ?_
   have h99 := ((h67.ext e79).ext e97)
   have hml := Int.emod_lt_of_pos X36 (hYp.1 (by omega))
   have hmn := Int.emod_nonneg X36 (show Y37 ≠ 0 by omega)
   have H100 := (e97.blk H88)
   have H101 := (e97.blk H89)
   have H102 := (e97.blk H90)
   have H103 := (e97.blk H91)
   exact ih43 (((X36 % Y37)).toNat) _ _ (by rw [hd68]; omega) ⟨Ay33, ly34, cy35, Ad93, xs81.length, c94, Y37, (X36 % Y37), rfl, f46, f47, f48, rfl, rfl, f51, f52, f53, f54, f55, f56, f57, f58, f59, f60, E98, H100, H101, H102, H103, h99, ⟨xs81, rfl, hO95.cap, hO95.wd, ho85, hk86, hv87⟩, (by rw [gI_step]; exact hgc), hYs, (by omega)⟩
 · refine rk_cf (T rfl (congrArg Value.bool (decide_eq_false hb69))) ?_
   refine rk_exit rfl ?_
   have hY0 : Y37 = 0 := by omega
   rw [hY0, gI_zero] at hgc
   have hr104 : X36 = (x.natAbs : Int) := (by have h := hgc; rw [gI_zl] at h; (try simp at h); omega)
   have hw105 := Wc.eq h66 hr104
   have hq106 : (x.natAbs : Int) < 2 ^ (max sx (max sy sz)) := by rw [← hr104]; exact hXs
   refine rk_reg ?_
   refine lw_v (.slice Ax30 lx31 cx32) (dv_move (T rfl f49)) ?_
   refine lw_v (.agg #[.bool false, .slice Ax30 lx31 cx32]) (dv_build (pv := [(0, .bool false), (1, .slice Ax30 lx31 cx32)]) (l := [.bool false, .slice Ax30 lx31 cx32]) zc120 pl120 ⟨rfl, C, ⟨rfl, (T rfl rfl), trivial⟩⟩ rfl) ?_
   refine lw_e (oe_store (v := .agg #[.bool false, .slice Ax30 lx31 cx32]) (vs := [.bool false, .slice Ax30 lx31 cx32]) (l := [.bool false, .slice Ax30 lx31 cx32]) (T rfl f47) (T rfl rfl) sz120 rfl rfl rfl H64 rfl ?_)
   intro w107 s108 H109
   have E110 := below_st E61 N9 s108
   refine lw_nil ?_
   refine rk_inBlock ?_
   refine rk_reg ?_
   refine lw_v (.int .i64 1) (dv_add (a := 0) (b := 1) (z := 1) (T rfl f53) C (by decide)) ?_
   refine lw_v (.int .i64 1) (dv_move (T rfl rfl)) ?_
   refine lw_nil ?_
   refine rk_inLoop ?_
   refine rk_seq ?_
   refine rk_reg ?_
   refine lw_v (.bool (decide (((1 : Int) < 3 : Prop)))) (dv_lss (a := 1) (b := 3) (T rfl rfl) (T rfl f52)) ?_
   refine lw_nil ?_
   refine rk_seq ?_
   refine rk_ct (T rfl (rfl)) ?_
   refine rk_skip ?_
   refine rk_seq ?_
   refine rk_block ?_
   refine rk_seq ?_
   refine rk_reg ?_
   refine lw_v (.pointer (some ⟨bl, 2, none⟩)) (dv_indexAddr (a := ⟨bl, 0, none⟩) (a' := ⟨bl, 2, none⟩) (l := 3) (c := 3) (j := 1) us197 sz120 (T rfl f51) (T rfl rfl) (by decide) (by decide) rfl) ?_
   have H111 := (s108.blk H62 (by omega))
   refine lw_v (.agg #[.bool nb, .slice Ab lb cb]) (dv_loads (l := [.bool nb, .slice Ab lb cb]) agt120 sz120 (T rfl rfl) H111 rfl) ?_
   refine lw_e (oe_alloc ze120 ?_)
   intro b112 w113 n114
   have N115 : w.heap.size ≤ b112 := n114.eq ▸ E110.size
   have H116 := (s108.blk H65 (by omega))
   have : b16 < b112 := n114.eq ▸ lt_of_blk H116
   have E117 := below_ext E110 E110.size n114.ext
   refine lw_e (oe_store (v := .agg #[.bool nb, .slice Ab lb cb]) (vs := [.bool nb, .slice Ab lb cb]) (l := [.bool nb, .slice Ab lb cb]) (T rfl rfl) (T rfl rfl) sz120 rfl rfl rfl n114.blk rfl ?_)
   intro w118 s119 H120
   have E121 := below_st E117 N115 s119
   refine lw_nil ?_
   refine rk_seq ?_
   refine rk_any (fun w => w.heap[b6]? = some (.cells #[.bool false, .slice Ax30 lx31 cx32] 120) ∧ w.heap[b112]? = some (.cells #[.bool nb, .slice Ab lb cb] 120)) [5] mo ?_
   intro w122 d123
   have E124 := below_ext E121 E121.size d123.ext
   have H125 := (d123.ext.blk (s119.blk (n114.ext.blk H109) (by omega)))
   have H126 := (d123.ext.blk H120)
   refine aw_pure 0 (.pointer (some ⟨b6, 1, none⟩)) rfl (by kernel_rfl) .none ⟨H125, H126⟩ (fun _ => dv_fieldAddr (a := ⟨b6, 0, none⟩) (a' := ⟨b6, 1, none⟩) fo120_1 (T rfl f47) rfl) ?_
   refine aw_load 1 (.slice Ax30 lx31 cx32) rfl (by kernel_rfl) .none ⟨H125, H126⟩ (fun _ s => dv_load1 (b := b6) (o := 1) agt118 (T rfl rfl) s.1 rfl) ?_
   refine aw_pure 2 (.pointer (some ⟨b112, 1, none⟩)) rfl (by kernel_rfl) .none ⟨H125, H126⟩ (fun _ => dv_fieldAddr (a := ⟨b112, 0, none⟩) (a' := ⟨b112, 1, none⟩) fo120_1 (T rfl rfl) rfl) ?_
   refine aw_load 3 (.slice Ab lb cb) rfl (by kernel_rfl) .none ⟨H125, H126⟩ (fun _ s => dv_load1 (b := b112) (o := 1) agt118 (T rfl rfl) s.2 rfl) ?_
   refine aw_pure 4 (.slice Ax30 lx31 cx32) rfl (by kernel_rfl) .none ⟨H125, H126⟩ (fun _ => dv_assign (T rfl rfl)) ?_
   refine aw_last 5 (.slice Ab lb cb) rfl (by kernel_rfl) .none (fun _ => dv_assign (T rfl rfl)) ?_
   refine aw_done (by kernel_rfl) ?_
   refine rk_seq ?_
   refine rk_block ?_
   have h135 := ((((hw105.st s108 H64 (by decide)).ext n114.ext).st s119 n114.blk (by decide)).ext d123.ext)
   have h136 := hb.ext E124
   have H137 := (d123.ext.blk (s119.blk (n114.ext.blk H111) (by omega)))
   have H138 := (d123.ext.blk (s119.blk (n114.ext.blk (s108.blk H63 (by omega))) (by omega)))
   have H139 := (d123.ext.blk (s119.blk (n114.ext.blk H116) (by omega)))
   refine rk_loop (fun dm_ fr wl => ∃ (Ax127 : Option Addr) (lx128 cx129 : Nat) (Ay130 : Option Addr) (ly131 cy132 : Nat) (X133 Y134 : Int), dm_ = Y134.toNat ∧ fr 2 = .pointer (some ⟨b1, 0, none⟩) ∧ fr 3 = .pointer (some ⟨b6, 0, none⟩) ∧ fr 5 = .pointer (some ⟨b112, 0, none⟩) ∧ fr 6 = .slice Ax127 lx128 cx129 ∧ fr 7 = .slice Ay130 ly131 cy132 ∧ fr 11 = .slice (some ⟨bl, 0, none⟩) 3 3 ∧ fr 12 = .int .i64 3 ∧ fr 13 = .int .i64 1 ∧ fr 14 = .bool (decide (((1 : Int) < 3 : Prop))) ∧ fr 15 = .pointer (some ⟨bl, 2, none⟩) ∧ fr 16 = .agg #[.bool nb, .slice Ab lb cb] ∧ fr 17 = .pointer (some ⟨b6, 1, none⟩) ∧ fr 18 = .slice Ax30 lx31 cx32 ∧ fr 19 = .pointer (some ⟨b112, 1, none⟩) ∧ fr 20 = .slice Ab lb cb ∧ fr 33 = .slice Ax30 lx31 cx32 ∧ fr 34 = .agg #[.bool false, .slice Ax30 lx31 cx32] ∧ fr 35 = .int .i64 1 ∧ Below w.heap.size w wl ∧ wl.heap[bl]? = some (.cells #[.bool na, .slice Aa la ca, .bool nb, .slice Ab lb cb, .bool nm, .slice Am lm cm] 120) ∧ wl.heap[b1]? = some (.cells #[.bool false, .slice none 0 0] 120) ∧ wl.heap[b6]? = some (.cells #[.bool false, .slice Ax30 lx31 cx32] 120) ∧ wl.heap[b16]? = some (.cells #[.bool na, .slice Aa la ca] 120) ∧ wl.heap[b112]? = some (.cells #[.bool nb, .slice Ab lb cb] 120) ∧ Wc 64 29 .u64 wl Ax127 lx128 cx129 X133 ∧ Wc 64 29 .u64 wl Ay130 ly131 cy132 Y134 ∧ (gI X133 Y134 = gI ((x.natAbs : Int)) ((y.natAbs : Int))) ∧ (X133 < 2 ^ (max sx (max sy sz))) ∧ (Y134 < 2 ^ (max sx (max sy sz)))) ((((y.natAbs : Int))).toNat) ⟨Ax30, lx31, cx32, Ab, lb, cb, ((x.natAbs : Int)), ((y.natAbs : Int)), rfl, f46, f47, rfl, rfl, rfl, f51, f52, rfl, rfl, rfl, rfl, rfl, rfl, rfl, rfl, rfl, rfl, rfl, E124, H137, H138, H125, H139, H126, h135, h136.wc, rfl, hq106, (Int.lt_of_lt_of_le h136.ltI (pow_le_of (by decide) (by omega)))⟩ ?_
   intro d144 fr143 w140 hI141 ih142
   obtain ⟨Ax127, lx128, cx129, Ay130, ly131, cy132, X133, Y134, hd171, f145, f146, f147, f148, f149, f150, f151, f152, f153, f154, f155, f156, f157, f158, f159, f160, f161, f162, E163, H164, H165, H166, H167, H168, h169, h170, hgc, hXs, hYs⟩ := hI141
   have hXp := h169.nonneg
   have hYp := h170.pos
   have hYn := h170.nonneg
   have hlx := Wc.len (by decide) h169 hXs
   have hly := Wc.len (by decide) h170 hYs
   refine rk_seq ?_
   refine rk_seq ?_
   refine rk_reg ?_
   refine lw_v (.slice Ay130 ly131 cy132) (dv_move (T rfl f149)) ?_
   refine lw_v (.int .i64 ((ly131 : Int))) (dv_len (ad := Ay130) (l := ly131) (c := cy132) us118 (T rfl rfl)) ?_
   refine lw_v (.bool (decide (0 < ((ly131 : Int))))) (dv_gtr (a := (ly131 : Int)) (b := 0) (T rfl rfl) C) ?_
   refine lw_nil ?_
   by_cases hb172 : 0 < ((ly131 : Int))
   · refine rk_ct (T rfl (congrArg Value.bool (decide_eq_true hb172))) ?_
     refine rk_skip ?_
     refine rk_block ?_
     refine rk_seq ?_
     refine rk_reg ?_
     refine lw_v (.slice Ax127 lx128 cx129) (dv_move (T rfl f148)) ?_
     refine lw_v (.slice Ay130 ly131 cy132) (dv_move (T rfl f149)) ?_
     refine lw_e (oe_callf (vs := [.slice Ax127 lx128 cx129, .slice Ay130 ly131 cy132]) co171 (ar2 (T rfl rfl) (T rfl rfl)) (divWords_ok h169 h170 (by omega) (by first | omega | (simp; done) | (simp; omega)) (by first | omega | (simp; done) | (simp; omega))) ?_)
     rintro _ w181 ⟨A173, n174, c175, A176, n177, c178, rfl, e182, h179, h180⟩
     have E183 := below_ext E163 E163.size e182
     have lh179 := Wc.len (by decide) h179 (div_sz (Wc.nonneg h169) (by omega) hXs)
     have lh180 := Wc.len (by decide) h180 (mod_sz (by omega) hYs)
     refine lw_v (.tuple #[.slice A173 n174 c175, .slice A176 n177 c178]) (dv_move (T rfl rfl)) ?_
     refine lw_v (.slice A173 n174 c175) (dv_extract (vs := #[.slice A173 n174 c175, .slice A176 n177 c178]) (T rfl rfl) rfl) ?_
     refine lw_v (.slice A176 n177 c178) (dv_extract (vs := #[.slice A173 n174 c175, .slice A176 n177 c178]) (T rfl rfl) rfl) ?_
     refine lw_v (.slice A173 n174 c175) (dv_assign (T rfl rfl)) ?_
     refine lw_v (.slice A176 n177 c178) (dv_assign (T rfl rfl)) ?_
     refine lw_nil ?_
     refine rk_reg ?_
     refine lw_v (.slice Ay130 ly131 cy132) (dv_move (T rfl f149)) ?_
     refine lw_v (.slice A176 n177 c178) (dv_move (T rfl rfl)) ?_
     obtain ⟨xs184, hl185, hc186, hw187, ho188, hk189, hv190⟩ := h180
     have H191 := (e182.blk H164)
     have : bl < w181.heap.size := lt_of_blk H191
     have H192 := (e182.blk H165)
     have : b1 < w181.heap.size := lt_of_blk H192
     have H193 := (e182.blk H166)
     have : b6 < w181.heap.size := lt_of_blk H193
     have H194 := (e182.blk H167)
     have : b16 < w181.heap.size := lt_of_blk H194
     have H195 := (e182.blk H168)
     have : b112 < w181.heap.size := lt_of_blk H195
     have N196 : w.heap.size ≤ w181.heap.size := E183.size
     refine lw_e (oe_callf (vs := [.slice A176 n177 c178]) co172 (ar1 (T rfl rfl)) (clone_ok hw187 hl185 (by first | omega | (simp; done) | (simp; omega))) ?_)
     rintro _ w200 ⟨Ad197, c198, rfl, e201, hO199⟩
     have E202 := below_ext E183 E183.size e201
     refine lw_v (.slice Ay130 ly131 cy132) (dv_assign (T rfl rfl)) ?_
     refine lw_v (.slice Ad197 (xs184.length) c198) (dv_assign (T rfl rfl)) ?_
     refine lw_nil ?_
     refine rk_inBlock ?_
     have h203 := ((h170.ext e182).ext e201)
     have hml := Int.emod_lt_of_pos X133 (hYp.1 (by omega))
     have hmn := Int.emod_nonneg X133 (show Y134 ≠ 0 by omega)
     have H204 := (e201.blk H191)
     have H205 := (e201.blk H192)
     have H206 := (e201.blk H193)
     have H207 := (e201.blk H194)
     have H208 := (e201.blk H195)
     exact ih142 (((X133 % Y134)).toNat) _ _ (by rw [hd171]; omega) ⟨Ay130, ly131, cy132, Ad197, xs184.length, c198, Y134, (X133 % Y134), rfl, f145, f146, f147, rfl, rfl, f150, f151, f152, f153, f154, f155, f156, f157, f158, f159, f160, f161, f162, E202, H204, H205, H206, H207, H208, h203, ⟨xs184, rfl, hO199.cap, hO199.wd, ho188, hk189, hv190⟩, (by rw [gI_step]; exact hgc), hYs, (by omega)⟩
   · refine rk_cf (T rfl (congrArg Value.bool (decide_eq_false hb172))) ?_
     refine rk_exit rfl ?_
     have hY0 : Y134 = 0 := by omega
     rw [hY0, gI_zero] at hgc
     have hr209 : X133 = gI x y := (by have h := hgc; rw [gI_abs] at h; (try simp at h); omega)
     have hw210 := Wc.eq h169 hr209
     have hq211 : gI x y < 2 ^ (max sx (max sy sz)) := by rw [← hr209]; exact hXs
     refine rk_reg ?_
     refine lw_v (.slice Ax127 lx128 cx129) (dv_move (T rfl f148)) ?_
     refine lw_v (.agg #[.bool false, .slice Ax127 lx128 cx129]) (dv_build (pv := [(0, .bool false), (1, .slice Ax127 lx128 cx129)]) (l := [.bool false, .slice Ax127 lx128 cx129]) zc120 pl120 ⟨rfl, C, ⟨rfl, (T rfl rfl), trivial⟩⟩ rfl) ?_
     refine lw_e (oe_store (v := .agg #[.bool false, .slice Ax127 lx128 cx129]) (vs := [.bool false, .slice Ax127 lx128 cx129]) (l := [.bool false, .slice Ax127 lx128 cx129]) (T rfl f146) (T rfl rfl) sz120 rfl rfl rfl H166 rfl ?_)
     intro w212 s213 H214
     have E215 := below_st E163 N9 s213
     refine lw_nil ?_
     refine rk_inBlock ?_
     refine rk_reg ?_
     refine lw_v (.int .i64 2) (dv_add (a := 1) (b := 1) (z := 2) (T rfl f152) C (by decide)) ?_
     refine lw_v (.int .i64 2) (dv_move (T rfl rfl)) ?_
     refine lw_nil ?_
     refine rk_inLoop ?_
     refine rk_seq ?_
     refine rk_reg ?_
     refine lw_v (.bool (decide (((2 : Int) < 3 : Prop)))) (dv_lss (a := 2) (b := 3) (T rfl rfl) (T rfl f151)) ?_
     refine lw_nil ?_
     refine rk_seq ?_
     refine rk_ct (T rfl (rfl)) ?_
     refine rk_skip ?_
     refine rk_seq ?_
     refine rk_block ?_
     refine rk_seq ?_
     refine rk_reg ?_
     refine lw_v (.pointer (some ⟨bl, 4, none⟩)) (dv_indexAddr (a := ⟨bl, 0, none⟩) (a' := ⟨bl, 4, none⟩) (l := 3) (c := 3) (j := 2) us197 sz120 (T rfl f150) (T rfl rfl) (by decide) (by decide) rfl) ?_
     have H216 := (s213.blk H164 (by omega))
     refine lw_v (.agg #[.bool nm, .slice Am lm cm]) (dv_loads (l := [.bool nm, .slice Am lm cm]) agt120 sz120 (T rfl rfl) H216 rfl) ?_
     refine lw_e (oe_alloc ze120 ?_)
     intro b217 w218 n219
     have N220 : w.heap.size ≤ b217 := n219.eq ▸ E215.size
     have H221 := (s213.blk H168 (by omega))
     have : b112 < b217 := n219.eq ▸ lt_of_blk H221
     have E222 := below_ext E215 E215.size n219.ext
     refine lw_e (oe_store (v := .agg #[.bool nm, .slice Am lm cm]) (vs := [.bool nm, .slice Am lm cm]) (l := [.bool nm, .slice Am lm cm]) (T rfl rfl) (T rfl rfl) sz120 rfl rfl rfl n219.blk rfl ?_)
     intro w223 s224 H225
     have E226 := below_st E222 N220 s224
     refine lw_nil ?_
     refine rk_seq ?_
     refine rk_any (fun w => w.heap[b6]? = some (.cells #[.bool false, .slice Ax127 lx128 cx129] 120) ∧ w.heap[b217]? = some (.cells #[.bool nm, .slice Am lm cm] 120)) [5] mo ?_
     intro w227 d228
     have E229 := below_ext E226 E226.size d228.ext
     have H230 := (d228.ext.blk (s224.blk (n219.ext.blk H214) (by omega)))
     have H231 := (d228.ext.blk H225)
     refine aw_pure 0 (.pointer (some ⟨b6, 1, none⟩)) rfl (by kernel_rfl) .none ⟨H230, H231⟩ (fun _ => dv_fieldAddr (a := ⟨b6, 0, none⟩) (a' := ⟨b6, 1, none⟩) fo120_1 (T rfl f146) rfl) ?_
     refine aw_load 1 (.slice Ax127 lx128 cx129) rfl (by kernel_rfl) .none ⟨H230, H231⟩ (fun _ s => dv_load1 (b := b6) (o := 1) agt118 (T rfl rfl) s.1 rfl) ?_
     refine aw_pure 2 (.pointer (some ⟨b217, 1, none⟩)) rfl (by kernel_rfl) .none ⟨H230, H231⟩ (fun _ => dv_fieldAddr (a := ⟨b217, 0, none⟩) (a' := ⟨b217, 1, none⟩) fo120_1 (T rfl rfl) rfl) ?_
     refine aw_load 3 (.slice Am lm cm) rfl (by kernel_rfl) .none ⟨H230, H231⟩ (fun _ s => dv_load1 (b := b217) (o := 1) agt118 (T rfl rfl) s.2 rfl) ?_
     refine aw_pure 4 (.slice Ax127 lx128 cx129) rfl (by kernel_rfl) .none ⟨H230, H231⟩ (fun _ => dv_assign (T rfl rfl)) ?_
     refine aw_last 5 (.slice Am lm cm) rfl (by kernel_rfl) .none (fun _ => dv_assign (T rfl rfl)) ?_
     refine aw_done (by kernel_rfl) ?_
     refine rk_seq ?_
     refine rk_block ?_
     have h240 := ((((hw210.st s213 H166 (by decide)).ext n219.ext).st s224 n219.blk (by decide)).ext d228.ext)
     have h241 := hm.ext E229
     have H242 := (d228.ext.blk (s224.blk (n219.ext.blk H216) (by omega)))
     have H243 := (d228.ext.blk (s224.blk (n219.ext.blk (s213.blk H165 (by omega))) (by omega)))
     have H244 := (d228.ext.blk (s224.blk (n219.ext.blk (s213.blk H167 (by omega))) (by omega)))
     have H245 := (d228.ext.blk (s224.blk (n219.ext.blk H221) (by omega)))
     refine rk_loop (fun dm_ fr wl => ∃ (Ax232 : Option Addr) (lx233 cx234 : Nat) (Ay235 : Option Addr) (ly236 cy237 : Nat) (X238 Y239 : Int), dm_ = Y239.toNat ∧ fr 2 = .pointer (some ⟨b1, 0, none⟩) ∧ fr 3 = .pointer (some ⟨b6, 0, none⟩) ∧ fr 5 = .pointer (some ⟨b217, 0, none⟩) ∧ fr 6 = .slice Ax232 lx233 cx234 ∧ fr 7 = .slice Ay235 ly236 cy237 ∧ fr 11 = .slice (some ⟨bl, 0, none⟩) 3 3 ∧ fr 12 = .int .i64 3 ∧ fr 13 = .int .i64 2 ∧ fr 14 = .bool (decide (((2 : Int) < 3 : Prop))) ∧ fr 15 = .pointer (some ⟨bl, 4, none⟩) ∧ fr 16 = .agg #[.bool nm, .slice Am lm cm] ∧ fr 17 = .pointer (some ⟨b6, 1, none⟩) ∧ fr 18 = .slice Ax127 lx128 cx129 ∧ fr 19 = .pointer (some ⟨b217, 1, none⟩) ∧ fr 20 = .slice Am lm cm ∧ fr 33 = .slice Ax127 lx128 cx129 ∧ fr 34 = .agg #[.bool false, .slice Ax127 lx128 cx129] ∧ fr 35 = .int .i64 2 ∧ Below w.heap.size w wl ∧ wl.heap[bl]? = some (.cells #[.bool na, .slice Aa la ca, .bool nb, .slice Ab lb cb, .bool nm, .slice Am lm cm] 120) ∧ wl.heap[b1]? = some (.cells #[.bool false, .slice none 0 0] 120) ∧ wl.heap[b6]? = some (.cells #[.bool false, .slice Ax127 lx128 cx129] 120) ∧ wl.heap[b16]? = some (.cells #[.bool na, .slice Aa la ca] 120) ∧ wl.heap[b112]? = some (.cells #[.bool nb, .slice Ab lb cb] 120) ∧ wl.heap[b217]? = some (.cells #[.bool nm, .slice Am lm cm] 120) ∧ Wc 64 29 .u64 wl Ax232 lx233 cx234 X238 ∧ Wc 64 29 .u64 wl Ay235 ly236 cy237 Y239 ∧ (gI X238 Y239 = gI (gI x y) ((z.natAbs : Int))) ∧ (X238 < 2 ^ (max sx (max sy sz))) ∧ (Y239 < 2 ^ (max sx (max sy sz)))) ((((z.natAbs : Int))).toNat) ⟨Ax127, lx128, cx129, Am, lm, cm, (gI x y), ((z.natAbs : Int)), rfl, f145, f146, rfl, rfl, rfl, f150, f151, rfl, rfl, rfl, rfl, rfl, rfl, rfl, rfl, rfl, rfl, rfl, E229, H242, H243, H230, H244, H245, H231, h240, h241.wc, rfl, hq211, (Int.lt_of_lt_of_le h241.ltI (pow_le_of (by decide) (by omega)))⟩ ?_
     intro d250 fr249 w246 hI247 ih248
     obtain ⟨Ax232, lx233, cx234, Ay235, ly236, cy237, X238, Y239, hd278, f251, f252, f253, f254, f255, f256, f257, f258, f259, f260, f261, f262, f263, f264, f265, f266, f267, f268, E269, H270, H271, H272, H273, H274, H275, h276, h277, hgc, hXs, hYs⟩ := hI247
     have hXp := h276.nonneg
     have hYp := h277.pos
     have hYn := h277.nonneg
     have hlx := Wc.len (by decide) h276 hXs
     have hly := Wc.len (by decide) h277 hYs
     refine rk_seq ?_
     refine rk_seq ?_
     refine rk_reg ?_
     refine lw_v (.slice Ay235 ly236 cy237) (dv_move (T rfl f255)) ?_
     refine lw_v (.int .i64 ((ly236 : Int))) (dv_len (ad := Ay235) (l := ly236) (c := cy237) us118 (T rfl rfl)) ?_
     refine lw_v (.bool (decide (0 < ((ly236 : Int))))) (dv_gtr (a := (ly236 : Int)) (b := 0) (T rfl rfl) C) ?_
     refine lw_nil ?_
     by_cases hb279 : 0 < ((ly236 : Int))
     · refine rk_ct (T rfl (congrArg Value.bool (decide_eq_true hb279))) ?_
       refine rk_skip ?_
       refine rk_block ?_
       refine rk_seq ?_
       refine rk_reg ?_
       refine lw_v (.slice Ax232 lx233 cx234) (dv_move (T rfl f254)) ?_
       refine lw_v (.slice Ay235 ly236 cy237) (dv_move (T rfl f255)) ?_
       refine lw_e (oe_callf (vs := [.slice Ax232 lx233 cx234, .slice Ay235 ly236 cy237]) co171 (ar2 (T rfl rfl) (T rfl rfl)) (divWords_ok h276 h277 (by omega) (by first | omega | (simp; done) | (simp; omega)) (by first | omega | (simp; done) | (simp; omega))) ?_)
       rintro _ w288 ⟨A280, n281, c282, A283, n284, c285, rfl, e289, h286, h287⟩
       have E290 := below_ext E269 E269.size e289
       have lh286 := Wc.len (by decide) h286 (div_sz (Wc.nonneg h276) (by omega) hXs)
       have lh287 := Wc.len (by decide) h287 (mod_sz (by omega) hYs)
       refine lw_v (.tuple #[.slice A280 n281 c282, .slice A283 n284 c285]) (dv_move (T rfl rfl)) ?_
       refine lw_v (.slice A280 n281 c282) (dv_extract (vs := #[.slice A280 n281 c282, .slice A283 n284 c285]) (T rfl rfl) rfl) ?_
       refine lw_v (.slice A283 n284 c285) (dv_extract (vs := #[.slice A280 n281 c282, .slice A283 n284 c285]) (T rfl rfl) rfl) ?_
       refine lw_v (.slice A280 n281 c282) (dv_assign (T rfl rfl)) ?_
       refine lw_v (.slice A283 n284 c285) (dv_assign (T rfl rfl)) ?_
       refine lw_nil ?_
       refine rk_reg ?_
       refine lw_v (.slice Ay235 ly236 cy237) (dv_move (T rfl f255)) ?_
       refine lw_v (.slice A283 n284 c285) (dv_move (T rfl rfl)) ?_
       obtain ⟨xs291, hl292, hc293, hw294, ho295, hk296, hv297⟩ := h287
       have H298 := (e289.blk H270)
       have : bl < w288.heap.size := lt_of_blk H298
       have H299 := (e289.blk H271)
       have : b1 < w288.heap.size := lt_of_blk H299
       have H300 := (e289.blk H272)
       have : b6 < w288.heap.size := lt_of_blk H300
       have H301 := (e289.blk H273)
       have : b16 < w288.heap.size := lt_of_blk H301
       have H302 := (e289.blk H274)
       have : b112 < w288.heap.size := lt_of_blk H302
       have H303 := (e289.blk H275)
       have : b217 < w288.heap.size := lt_of_blk H303
       have N304 : w.heap.size ≤ w288.heap.size := E290.size
       refine lw_e (oe_callf (vs := [.slice A283 n284 c285]) co172 (ar1 (T rfl rfl)) (clone_ok hw294 hl292 (by first | omega | (simp; done) | (simp; omega))) ?_)
       rintro _ w308 ⟨Ad305, c306, rfl, e309, hO307⟩
       have E310 := below_ext E290 E290.size e309
       refine lw_v (.slice Ay235 ly236 cy237) (dv_assign (T rfl rfl)) ?_
       refine lw_v (.slice Ad305 (xs291.length) c306) (dv_assign (T rfl rfl)) ?_
       refine lw_nil ?_
       refine rk_inBlock ?_
       have h311 := ((h277.ext e289).ext e309)
       have hml := Int.emod_lt_of_pos X238 (hYp.1 (by omega))
       have hmn := Int.emod_nonneg X238 (show Y239 ≠ 0 by omega)
       have H312 := (e309.blk H298)
       have H313 := (e309.blk H299)
       have H314 := (e309.blk H300)
       have H315 := (e309.blk H301)
       have H316 := (e309.blk H302)
       have H317 := (e309.blk H303)
       exact ih248 (((X238 % Y239)).toNat) _ _ (by rw [hd278]; omega) ⟨Ay235, ly236, cy237, Ad305, xs291.length, c306, Y239, (X238 % Y239), rfl, f251, f252, f253, rfl, rfl, f256, f257, f258, f259, f260, f261, f262, f263, f264, f265, f266, f267, f268, E310, H312, H313, H314, H315, H316, H317, h311, ⟨xs291, rfl, hO307.cap, hO307.wd, ho295, hk296, hv297⟩, (by rw [gI_step]; exact hgc), hYs, (by omega)⟩
     · refine rk_cf (T rfl (congrArg Value.bool (decide_eq_false hb279))) ?_
       refine rk_exit rfl ?_
       have hY0 : Y239 = 0 := by omega
       rw [hY0, gI_zero] at hgc
       have hr318 : X238 = gI3 x y z := (by have h := hgc; rw [show gI3 x y z = gI (gI x y) z from rfl]; rw [gI_absr] at h; (try simp at h); omega)
       have hw319 := Wc.eq h276 hr318
       have hq320 : gI3 x y z < 2 ^ (max sx (max sy sz)) := by rw [← hr318]; exact hXs
       refine rk_reg ?_
       refine lw_v (.slice Ax232 lx233 cx234) (dv_move (T rfl f254)) ?_
       refine lw_v (.agg #[.bool false, .slice Ax232 lx233 cx234]) (dv_build (pv := [(0, .bool false), (1, .slice Ax232 lx233 cx234)]) (l := [.bool false, .slice Ax232 lx233 cx234]) zc120 pl120 ⟨rfl, C, ⟨rfl, (T rfl rfl), trivial⟩⟩ rfl) ?_
       refine lw_e (oe_store (v := .agg #[.bool false, .slice Ax232 lx233 cx234]) (vs := [.bool false, .slice Ax232 lx233 cx234]) (l := [.bool false, .slice Ax232 lx233 cx234]) (T rfl f252) (T rfl rfl) sz120 rfl rfl rfl H272 rfl ?_)
       intro w321 s322 H323
       have E324 := below_st E269 N9 s322
       refine lw_nil ?_
       refine rk_inBlock ?_
       refine rk_reg ?_
       refine lw_v (.int .i64 3) (dv_add (a := 2) (b := 1) (z := 3) (T rfl f258) C (by decide)) ?_
       refine lw_v (.int .i64 3) (dv_move (T rfl rfl)) ?_
       refine lw_nil ?_
       refine rk_inLoop ?_
       refine rk_seq ?_
       refine rk_reg ?_
       refine lw_v (.bool (decide (((3 : Int) < 3 : Prop)))) (dv_lss (a := 3) (b := 3) (T rfl rfl) (T rfl f257)) ?_
       refine lw_nil ?_
       refine rk_seq ?_
       refine rk_cf (T rfl (rfl)) ?_
       refine rk_exit rfl ?_
       refine rk_seq ?_
       refine rk_reg ?_
       refine lw_v (.agg #[.bool false, .slice Ax232 lx233 cx234]) (dv_loads (l := [.bool false, .slice Ax232 lx233 cx234]) agt120 sz120 (T rfl f252) H323 rfl) ?_
       have H325 := (s322.blk H271 (by omega))
       refine lw_e (oe_store (v := .agg #[.bool false, .slice Ax232 lx233 cx234]) (vs := [.bool false, .slice Ax232 lx233 cx234]) (l := [.bool false, .slice Ax232 lx233 cx234]) (T rfl f251) (T rfl rfl) sz120 rfl rfl rfl H325 rfl ?_)
       intro w326 s327 H328
       have E329 := below_st E324 N4 s327
       refine lw_nil ?_
       refine rk_ret Try.func134 (v := .agg #[.bool false, .slice Ax232 lx233 cx234]) (res1 Try.results134 (rv_cells (l := [.bool false, .slice Ax232 lx233 cx234]) agt120 sz120 rfl f251 H328 rfl)) ⟨_, rfl, ?_⟩
       have h330 := ((hw319.st s322 H272 (by decide)).st s327 H325 (by decide))
       exact ⟨_, _, _, _, rfl, E329, Wc.num h330 (by simp) (by simp [sg]) hq320⟩
end Go.Proofs.Ytdanhdbanfpghaa.W
set_option linter.unusedVariables false
set_option linter.unusedSimpArgs false
namespace Go.Proofs.Ytdanhdbanfpghaa.W
open Go Go.RowKit Go.Proofs.Ytdanhdbanfpghaa.Fw
attribute [local irreducible] RunK LW AW DV OE Ct
theorem fo31_0 : fieldOffB Try.prog 31 0 = some 0 := by kernel_rfl
theorem fo31_1 : fieldOffB Try.prog 31 1 = some 1 := by kernel_rfl
theorem fo31_2 : fieldOffB Try.prog 31 2 = some 2 := by kernel_rfl
theorem fo31_3 : fieldOffB Try.prog 31 3 = some 3 := by kernel_rfl
set_option maxHeartbeats 1000000 in
theorem toWide_ok {w : World} {z : Int}   : Ct Try.prog 70 [.agg #[.int .u64 (wv3 z), .int .u64 (wv2 z), .int .u64 (wv1 z), .int .u64 (wv0 z)]] w fun v w1 => v = .agg #[.int .u64 (wv3 z), .int .u64 (wv2 z), .int .u64 (wv1 z), .int .u64 (wv0 z)] ∧ Ext w w1 := by
 refine ct_run (n := 17) Try.func70 rfl Try.ntmps70 rfl ?_
 have E0 : Below w.heap.size w w := Below.refl _ _
 refine rk_seq ?_
 refine rk_reg ?_
 refine lw_e (oe_box (v := .agg #[.int .u64 (wv3 z), .int .u64 (wv2 z), .int .u64 (wv1 z), .int .u64 (wv0 z)]) (cs := #[.int .u64 (wv3 z), .int .u64 (wv2 z), .int .u64 (wv1 z), .int .u64 (wv0 z)]) (T rfl rfl) rfl ?_)
 intro b1 w2 n3
 have N4 : w.heap.size ≤ b1 := n3.eq ▸ E0.size
 have E5 := below_ext E0 E0.size n3.ext
 refine lw_e (oe_alloc ze35 ?_)
 intro b6 w7 n8
 have N9 : w.heap.size ≤ b6 := n8.eq ▸ E5.size
 have : b1 < b6 := n8.eq ▸ lt_of_blk n3.blk
 have E10 := below_ext E5 E5.size n8.ext
 refine lw_nil ?_
 refine rk_seq ?_
 refine rk_reg ?_
 refine lw_e (oe_alloc ze35 ?_)
 intro b11 w12 n13
 have N14 : w.heap.size ≤ b11 := n13.eq ▸ E10.size
 have : b6 < b11 := n13.eq ▸ lt_of_blk n8.blk
 have E15 := below_ext E10 E10.size n13.ext
 refine lw_nil ?_
 refine rk_seq ?_
 refine rk_reg ?_
 refine lw_v (.pointer (some ⟨b1, 0, none⟩)) (dv_fieldAddr (a := ⟨b1, 0, none⟩) (a' := ⟨b1, 0, none⟩) fo31_0 (T rfl rfl) rfl) ?_
 have H16 := (n13.ext.blk (n8.ext.blk n3.blk))
 refine lw_v (.int .u64 (wv3 z)) (dv_load1 (b := b1) (o := 0) agt29 (T rfl rfl) H16 rfl) ?_
 refine lw_v (.pointer (some ⟨b11, 0, none⟩)) (dv_fieldAddr (a := ⟨b11, 0, none⟩) (a' := ⟨b11, 0, none⟩) fo35_0 (T rfl rfl) rfl) ?_
 refine lw_e (oe_store (v := .int .u64 (wv3 z)) (vs := [.int .u64 (wv3 z)]) (l := [.int .u64 (wv3 z), .int .u64 0, .int .u64 0, .int .u64 0]) (T rfl rfl) (T rfl rfl) sz29 rfl rfl rfl n13.blk rfl ?_)
 intro w17 s18 H19
 have E20 := below_st E15 N14 s18
 refine lw_nil ?_
 refine rk_seq ?_
 refine rk_reg ?_
 refine lw_v (.pointer (some ⟨b1, 1, none⟩)) (dv_fieldAddr (a := ⟨b1, 0, none⟩) (a' := ⟨b1, 1, none⟩) fo31_1 (T rfl rfl) rfl) ?_
 have H21 := (s18.blk H16 (by omega))
 refine lw_v (.int .u64 (wv2 z)) (dv_load1 (b := b1) (o := 1) agt29 (T rfl rfl) H21 rfl) ?_
 refine lw_v (.pointer (some ⟨b11, 1, none⟩)) (dv_fieldAddr (a := ⟨b11, 0, none⟩) (a' := ⟨b11, 1, none⟩) fo35_1 (T rfl rfl) rfl) ?_
 refine lw_e (oe_store (v := .int .u64 (wv2 z)) (vs := [.int .u64 (wv2 z)]) (l := [.int .u64 (wv3 z), .int .u64 (wv2 z), .int .u64 0, .int .u64 0]) (T rfl rfl) (T rfl rfl) sz29 rfl rfl rfl H19 rfl ?_)
 intro w22 s23 H24
 have E25 := below_st E20 N14 s23
 refine lw_nil ?_
 refine rk_seq ?_
 refine rk_reg ?_
 refine lw_v (.pointer (some ⟨b1, 2, none⟩)) (dv_fieldAddr (a := ⟨b1, 0, none⟩) (a' := ⟨b1, 2, none⟩) fo31_2 (T rfl rfl) rfl) ?_
 have H26 := (s23.blk H21 (by omega))
 refine lw_v (.int .u64 (wv1 z)) (dv_load1 (b := b1) (o := 2) agt29 (T rfl rfl) H26 rfl) ?_
 refine lw_v (.pointer (some ⟨b11, 2, none⟩)) (dv_fieldAddr (a := ⟨b11, 0, none⟩) (a' := ⟨b11, 2, none⟩) fo35_2 (T rfl rfl) rfl) ?_
 refine lw_e (oe_store (v := .int .u64 (wv1 z)) (vs := [.int .u64 (wv1 z)]) (l := [.int .u64 (wv3 z), .int .u64 (wv2 z), .int .u64 (wv1 z), .int .u64 0]) (T rfl rfl) (T rfl rfl) sz29 rfl rfl rfl H24 rfl ?_)
 intro w27 s28 H29
 have E30 := below_st E25 N14 s28
 refine lw_nil ?_
 refine rk_seq ?_
 refine rk_reg ?_
 refine lw_v (.pointer (some ⟨b1, 3, none⟩)) (dv_fieldAddr (a := ⟨b1, 0, none⟩) (a' := ⟨b1, 3, none⟩) fo31_3 (T rfl rfl) rfl) ?_
 have H31 := (s28.blk H26 (by omega))
 refine lw_v (.int .u64 (wv0 z)) (dv_load1 (b := b1) (o := 3) agt29 (T rfl rfl) H31 rfl) ?_
 refine lw_v (.pointer (some ⟨b11, 3, none⟩)) (dv_fieldAddr (a := ⟨b11, 0, none⟩) (a' := ⟨b11, 3, none⟩) fo35_3 (T rfl rfl) rfl) ?_
 refine lw_e (oe_store (v := .int .u64 (wv0 z)) (vs := [.int .u64 (wv0 z)]) (l := [.int .u64 (wv3 z), .int .u64 (wv2 z), .int .u64 (wv1 z), .int .u64 (wv0 z)]) (T rfl rfl) (T rfl rfl) sz29 rfl rfl rfl H29 rfl ?_)
 intro w32 s33 H34
 have E35 := below_st E30 N14 s33
 refine lw_nil ?_
 refine rk_seq ?_
 refine rk_reg ?_
 refine lw_v (.agg #[.int .u64 (wv3 z), .int .u64 (wv2 z), .int .u64 (wv1 z), .int .u64 (wv0 z)]) (dv_loads (l := [.int .u64 (wv3 z), .int .u64 (wv2 z), .int .u64 (wv1 z), .int .u64 (wv0 z)]) agt35 sz35 (T rfl rfl) H34 rfl) ?_
 have H36 := (s33.blk (s28.blk (s23.blk (s18.blk (n13.ext.blk n8.blk) (by omega)) (by omega)) (by omega)) (by omega))
 refine lw_e (oe_store (v := .agg #[.int .u64 (wv3 z), .int .u64 (wv2 z), .int .u64 (wv1 z), .int .u64 (wv0 z)]) (vs := [.int .u64 (wv3 z), .int .u64 (wv2 z), .int .u64 (wv1 z), .int .u64 (wv0 z)]) (l := [.int .u64 (wv3 z), .int .u64 (wv2 z), .int .u64 (wv1 z), .int .u64 (wv0 z)]) (T rfl rfl) (T rfl rfl) sz35 rfl rfl rfl H36 rfl ?_)
 intro w37 s38 H39
 have E40 := below_st E35 N9 s38
 refine lw_nil ?_
 refine rk_ret Try.func70 (v := .agg #[.int .u64 (wv3 z), .int .u64 (wv2 z), .int .u64 (wv1 z), .int .u64 (wv0 z)]) (res1 Try.results70 (rv_cells (l := [.int .u64 (wv3 z), .int .u64 (wv2 z), .int .u64 (wv1 z), .int .u64 (wv0 z)]) agt35 sz35 rfl rfl H39 rfl)) ⟨_, rfl, ?_⟩
 exact ⟨rfl, E40⟩
end Go.Proofs.Ytdanhdbanfpghaa.W
set_option linter.unusedVariables false
set_option linter.unusedSimpArgs false
namespace Go.Proofs.Ytdanhdbanfpghaa.W
open Go Go.RowKit Go.Proofs.Ytdanhdbanfpghaa.Fw
attribute [local irreducible] RunK LW AW DV OE Ct
theorem agt102 : aggB Try.prog 102 = some true := by kernel_rfl
theorem agt122 : aggB Try.prog 122 = some true := by kernel_rfl
theorem agt31 : aggB Try.prog 31 = some true := by kernel_rfl
theorem agt37 : aggB Try.prog 37 = some true := by kernel_rfl
theorem co127 : callOk Try.prog 127 = true := by kernel_rfl
theorem co128 : callOk Try.prog 128 = true := by kernel_rfl
theorem co129 : callOk Try.prog 129 = true := by kernel_rfl
theorem co130 : callOk Try.prog 130 = true := by kernel_rfl
theorem co134 : callOk Try.prog 134 = true := by kernel_rfl
theorem co146 : callOk Try.prog 146 = true := by kernel_rfl
theorem co69 : callOk Try.prog 69 = true := by kernel_rfl
theorem co70 : callOk Try.prog 70 = true := by kernel_rfl
theorem co75 : callOk Try.prog 75 = true := by kernel_rfl
theorem co88 : callOk Try.prog 88 = true := by kernel_rfl
theorem co89 : callOk Try.prog 89 = true := by kernel_rfl
theorem co90 : callOk Try.prog 90 = true := by kernel_rfl
theorem co91 : callOk Try.prog 91 = true := by kernel_rfl
theorem co93 : callOk Try.prog 93 = true := by kernel_rfl
theorem co99 : callOk Try.prog 99 = true := by kernel_rfl
theorem eg37 : Try.prog.eqGuardType Try.prog.depth 37 = false := by kernel_rfl
theorem fl37 : nestB Try.prog 37 .u64 3 4 = true := by kernel_rfl
theorem fo102_0 : fieldOffB Try.prog 102 0 = some 0 := by kernel_rfl
theorem fo102_1 : fieldOffB Try.prog 102 1 = some 2 := by kernel_rfl
theorem fo102_2 : fieldOffB Try.prog 102 2 = some 4 := by kernel_rfl
theorem fo122_0 : fieldOffB Try.prog 122 0 = some 0 := by kernel_rfl
theorem fo122_1 : fieldOffB Try.prog 122 1 = some 2 := by kernel_rfl
theorem fo122_2 : fieldOffB Try.prog 122 2 = some 4 := by kernel_rfl
theorem fo33_0 : fieldOffB Try.prog 33 0 = some 0 := by kernel_rfl
theorem fo33_1 : fieldOffB Try.prog 33 1 = some 4 := by kernel_rfl
theorem fo33_2 : fieldOffB Try.prog 33 2 = some 8 := by kernel_rfl
theorem fo37_0 : fieldOffB Try.prog 37 0 = some 0 := by kernel_rfl
theorem fo37_1 : fieldOffB Try.prog 37 1 = some 4 := by kernel_rfl
theorem fo37_2 : fieldOffB Try.prog 37 2 = some 8 := by kernel_rfl
theorem pl102 : placesB Try.prog 102 = some [(0, 2), (2, 2), (4, 2)] := by kernel_rfl
theorem pl122 : placesB Try.prog 122 = some [(0, 2), (2, 2), (4, 2)] := by kernel_rfl
theorem sz102 : sizeB Try.prog 102 = some 6 := by kernel_rfl
theorem sz122 : sizeB Try.prog 122 = some 6 := by kernel_rfl
theorem sz31 : sizeB Try.prog 31 = some 4 := by kernel_rfl
theorem sz37 : sizeB Try.prog 37 = some 12 := by kernel_rfl
theorem zc102 : zcB Try.prog 102 = some [.bool false, .slice none 0 0, .bool false, .slice none 0 0, .bool false, .slice none 0 0] := by kernel_rfl
theorem zc122 : zcB Try.prog 122 = some [.bool false, .slice none 0 0, .bool false, .slice none 0 0, .bool false, .slice none 0 0] := by kernel_rfl
theorem ze102 : zeroB Try.prog 102 = some #[.bool false, .slice none 0 0, .bool false, .slice none 0 0, .bool false, .slice none 0 0] := by kernel_rfl
theorem ze122 : zeroB Try.prog 122 = some #[.bool false, .slice none 0 0, .bool false, .slice none 0 0, .bool false, .slice none 0 0] := by kernel_rfl
theorem ze37 : zeroB Try.prog 37 = some #[.int .u64 0, .int .u64 0, .int .u64 0, .int .u64 0, .int .u64 0, .int .u64 0, .int .u64 0, .int .u64 0, .int .u64 0, .int .u64 0, .int .u64 0, .int .u64 0] := by kernel_rfl
set_option maxHeartbeats 1000000 in
theorem toPoint_ok {w : World} {x y u : Int}   : Ct Try.prog 21 [.agg #[.int .u64 (wv3 x), .int .u64 (wv2 x), .int .u64 (wv1 x), .int .u64 (wv0 x), .int .u64 (wv3 y), .int .u64 (wv2 y), .int .u64 (wv1 y), .int .u64 (wv0 y), .int .u64 (wv3 u), .int .u64 (wv2 u), .int .u64 (wv1 u), .int .u64 (wv0 u)]] w fun v w1 => v = .agg #[.int .u64 (wv3 x), .int .u64 (wv2 x), .int .u64 (wv1 x), .int .u64 (wv0 x), .int .u64 (wv3 y), .int .u64 (wv2 y), .int .u64 (wv1 y), .int .u64 (wv0 y), .int .u64 (wv3 u), .int .u64 (wv2 u), .int .u64 (wv1 u), .int .u64 (wv0 u)] ∧ Ext w w1 := by
 refine ct_run (n := 17) Try.func21 rfl Try.ntmps21 rfl ?_
 have E0 : Below w.heap.size w w := Below.refl _ _
 refine rk_seq ?_
 refine rk_reg ?_
 refine lw_e (oe_box (v := .agg #[.int .u64 (wv3 x), .int .u64 (wv2 x), .int .u64 (wv1 x), .int .u64 (wv0 x), .int .u64 (wv3 y), .int .u64 (wv2 y), .int .u64 (wv1 y), .int .u64 (wv0 y), .int .u64 (wv3 u), .int .u64 (wv2 u), .int .u64 (wv1 u), .int .u64 (wv0 u)]) (cs := #[.int .u64 (wv3 x), .int .u64 (wv2 x), .int .u64 (wv1 x), .int .u64 (wv0 x), .int .u64 (wv3 y), .int .u64 (wv2 y), .int .u64 (wv1 y), .int .u64 (wv0 y), .int .u64 (wv3 u), .int .u64 (wv2 u), .int .u64 (wv1 u), .int .u64 (wv0 u)]) (T rfl rfl) rfl ?_)
 intro b1 w2 n3
 have N4 : w.heap.size ≤ b1 := n3.eq ▸ E0.size
 have E5 := below_ext E0 E0.size n3.ext
 refine lw_e (oe_alloc ze37 ?_)
 intro b6 w7 n8
 have N9 : w.heap.size ≤ b6 := n8.eq ▸ E5.size
 have : b1 < b6 := n8.eq ▸ lt_of_blk n3.blk
 have E10 := below_ext E5 E5.size n8.ext
 refine lw_nil ?_
 refine rk_seq ?_
 refine rk_reg ?_
 refine lw_e (oe_alloc ze37 ?_)
 intro b11 w12 n13
 have N14 : w.heap.size ≤ b11 := n13.eq ▸ E10.size
 have : b6 < b11 := n13.eq ▸ lt_of_blk n8.blk
 have E15 := below_ext E10 E10.size n13.ext
 refine lw_nil ?_
 refine rk_seq ?_
 refine rk_reg ?_
 refine lw_v (.pointer (some ⟨b1, 0, none⟩)) (dv_fieldAddr (a := ⟨b1, 0, none⟩) (a' := ⟨b1, 0, none⟩) fo33_0 (T rfl rfl) rfl) ?_
 have H16 := (n13.ext.blk (n8.ext.blk n3.blk))
 refine lw_v (.agg #[.int .u64 (wv3 x), .int .u64 (wv2 x), .int .u64 (wv1 x), .int .u64 (wv0 x)]) (dv_loads (l := [.int .u64 (wv3 x), .int .u64 (wv2 x), .int .u64 (wv1 x), .int .u64 (wv0 x)]) agt31 sz31 (T rfl rfl) H16 rfl) ?_
 refine lw_e (oe_callf (vs := [.agg #[.int .u64 (wv3 x), .int .u64 (wv2 x), .int .u64 (wv1 x), .int .u64 (wv0 x)]]) co70 (ar1 (T rfl rfl)) (toWide_ok (z := x)  ) ?_)
 rintro _ w17 ⟨rfl, e18⟩
 have E19 := below_ext E15 E15.size e18
 refine lw_v (.pointer (some ⟨b11, 0, none⟩)) (dv_fieldAddr (a := ⟨b11, 0, none⟩) (a' := ⟨b11, 0, none⟩) fo37_0 (T rfl rfl) rfl) ?_
 have H20 := (e18.blk n13.blk)
 refine lw_e (oe_store (v := .agg #[.int .u64 (wv3 x), .int .u64 (wv2 x), .int .u64 (wv1 x), .int .u64 (wv0 x)]) (vs := [.int .u64 (wv3 x), .int .u64 (wv2 x), .int .u64 (wv1 x), .int .u64 (wv0 x)]) (l := [.int .u64 (wv3 x), .int .u64 (wv2 x), .int .u64 (wv1 x), .int .u64 (wv0 x), .int .u64 0, .int .u64 0, .int .u64 0, .int .u64 0, .int .u64 0, .int .u64 0, .int .u64 0, .int .u64 0]) (T rfl rfl) (T rfl rfl) sz35 rfl rfl rfl H20 rfl ?_)
 intro w21 s22 H23
 have E24 := below_st E19 N14 s22
 refine lw_nil ?_
 refine rk_seq ?_
 refine rk_reg ?_
 refine lw_v (.pointer (some ⟨b1, 4, none⟩)) (dv_fieldAddr (a := ⟨b1, 0, none⟩) (a' := ⟨b1, 4, none⟩) fo33_1 (T rfl rfl) rfl) ?_
 have H25 := (s22.blk (e18.blk H16) (by omega))
 refine lw_v (.agg #[.int .u64 (wv3 y), .int .u64 (wv2 y), .int .u64 (wv1 y), .int .u64 (wv0 y)]) (dv_loads (l := [.int .u64 (wv3 y), .int .u64 (wv2 y), .int .u64 (wv1 y), .int .u64 (wv0 y)]) agt31 sz31 (T rfl rfl) H25 rfl) ?_
 refine lw_e (oe_callf (vs := [.agg #[.int .u64 (wv3 y), .int .u64 (wv2 y), .int .u64 (wv1 y), .int .u64 (wv0 y)]]) co70 (ar1 (T rfl rfl)) (toWide_ok (z := y)  ) ?_)
 rintro _ w26 ⟨rfl, e27⟩
 have E28 := below_ext E24 E24.size e27
 refine lw_v (.pointer (some ⟨b11, 4, none⟩)) (dv_fieldAddr (a := ⟨b11, 0, none⟩) (a' := ⟨b11, 4, none⟩) fo37_1 (T rfl rfl) rfl) ?_
 have H29 := (e27.blk H23)
 refine lw_e (oe_store (v := .agg #[.int .u64 (wv3 y), .int .u64 (wv2 y), .int .u64 (wv1 y), .int .u64 (wv0 y)]) (vs := [.int .u64 (wv3 y), .int .u64 (wv2 y), .int .u64 (wv1 y), .int .u64 (wv0 y)]) (l := [.int .u64 (wv3 x), .int .u64 (wv2 x), .int .u64 (wv1 x), .int .u64 (wv0 x), .int .u64 (wv3 y), .int .u64 (wv2 y), .int .u64 (wv1 y), .int .u64 (wv0 y), .int .u64 0, .int .u64 0, .int .u64 0, .int .u64 0]) (T rfl rfl) (T rfl rfl) sz35 rfl rfl rfl H29 rfl ?_)
 intro w30 s31 H32
 have E33 := below_st E28 N14 s31
 refine lw_nil ?_
 refine rk_seq ?_
 refine rk_reg ?_
 refine lw_v (.pointer (some ⟨b1, 8, none⟩)) (dv_fieldAddr (a := ⟨b1, 0, none⟩) (a' := ⟨b1, 8, none⟩) fo33_2 (T rfl rfl) rfl) ?_
 have H34 := (s31.blk (e27.blk H25) (by omega))
 refine lw_v (.agg #[.int .u64 (wv3 u), .int .u64 (wv2 u), .int .u64 (wv1 u), .int .u64 (wv0 u)]) (dv_loads (l := [.int .u64 (wv3 u), .int .u64 (wv2 u), .int .u64 (wv1 u), .int .u64 (wv0 u)]) agt31 sz31 (T rfl rfl) H34 rfl) ?_
 refine lw_e (oe_callf (vs := [.agg #[.int .u64 (wv3 u), .int .u64 (wv2 u), .int .u64 (wv1 u), .int .u64 (wv0 u)]]) co70 (ar1 (T rfl rfl)) (toWide_ok (z := u)  ) ?_)
 rintro _ w35 ⟨rfl, e36⟩
 have E37 := below_ext E33 E33.size e36
 refine lw_v (.pointer (some ⟨b11, 8, none⟩)) (dv_fieldAddr (a := ⟨b11, 0, none⟩) (a' := ⟨b11, 8, none⟩) fo37_2 (T rfl rfl) rfl) ?_
 have H38 := (e36.blk H32)
 refine lw_e (oe_store (v := .agg #[.int .u64 (wv3 u), .int .u64 (wv2 u), .int .u64 (wv1 u), .int .u64 (wv0 u)]) (vs := [.int .u64 (wv3 u), .int .u64 (wv2 u), .int .u64 (wv1 u), .int .u64 (wv0 u)]) (l := [.int .u64 (wv3 x), .int .u64 (wv2 x), .int .u64 (wv1 x), .int .u64 (wv0 x), .int .u64 (wv3 y), .int .u64 (wv2 y), .int .u64 (wv1 y), .int .u64 (wv0 y), .int .u64 (wv3 u), .int .u64 (wv2 u), .int .u64 (wv1 u), .int .u64 (wv0 u)]) (T rfl rfl) (T rfl rfl) sz35 rfl rfl rfl H38 rfl ?_)
 intro w39 s40 H41
 have E42 := below_st E37 N14 s40
 refine lw_nil ?_
 refine rk_seq ?_
 refine rk_reg ?_
 refine lw_v (.agg #[.int .u64 (wv3 x), .int .u64 (wv2 x), .int .u64 (wv1 x), .int .u64 (wv0 x), .int .u64 (wv3 y), .int .u64 (wv2 y), .int .u64 (wv1 y), .int .u64 (wv0 y), .int .u64 (wv3 u), .int .u64 (wv2 u), .int .u64 (wv1 u), .int .u64 (wv0 u)]) (dv_loads (l := [.int .u64 (wv3 x), .int .u64 (wv2 x), .int .u64 (wv1 x), .int .u64 (wv0 x), .int .u64 (wv3 y), .int .u64 (wv2 y), .int .u64 (wv1 y), .int .u64 (wv0 y), .int .u64 (wv3 u), .int .u64 (wv2 u), .int .u64 (wv1 u), .int .u64 (wv0 u)]) agt37 sz37 (T rfl rfl) H41 rfl) ?_
 have H43 := (s40.blk (e36.blk (s31.blk (e27.blk (s22.blk (e18.blk (n13.ext.blk n8.blk)) (by omega))) (by omega))) (by omega))
 refine lw_e (oe_store (v := .agg #[.int .u64 (wv3 x), .int .u64 (wv2 x), .int .u64 (wv1 x), .int .u64 (wv0 x), .int .u64 (wv3 y), .int .u64 (wv2 y), .int .u64 (wv1 y), .int .u64 (wv0 y), .int .u64 (wv3 u), .int .u64 (wv2 u), .int .u64 (wv1 u), .int .u64 (wv0 u)]) (vs := [.int .u64 (wv3 x), .int .u64 (wv2 x), .int .u64 (wv1 x), .int .u64 (wv0 x), .int .u64 (wv3 y), .int .u64 (wv2 y), .int .u64 (wv1 y), .int .u64 (wv0 y), .int .u64 (wv3 u), .int .u64 (wv2 u), .int .u64 (wv1 u), .int .u64 (wv0 u)]) (l := [.int .u64 (wv3 x), .int .u64 (wv2 x), .int .u64 (wv1 x), .int .u64 (wv0 x), .int .u64 (wv3 y), .int .u64 (wv2 y), .int .u64 (wv1 y), .int .u64 (wv0 y), .int .u64 (wv3 u), .int .u64 (wv2 u), .int .u64 (wv1 u), .int .u64 (wv0 u)]) (T rfl rfl) (T rfl rfl) sz37 rfl rfl rfl H43 rfl ?_)
 intro w44 s45 H46
 have E47 := below_st E42 N9 s45
 refine lw_nil ?_
 refine rk_ret Try.func21 (v := .agg #[.int .u64 (wv3 x), .int .u64 (wv2 x), .int .u64 (wv1 x), .int .u64 (wv0 x), .int .u64 (wv3 y), .int .u64 (wv2 y), .int .u64 (wv1 y), .int .u64 (wv0 y), .int .u64 (wv3 u), .int .u64 (wv2 u), .int .u64 (wv1 u), .int .u64 (wv0 u)]) (res1 Try.results21 (rv_cells (l := [.int .u64 (wv3 x), .int .u64 (wv2 x), .int .u64 (wv1 x), .int .u64 (wv0 x), .int .u64 (wv3 y), .int .u64 (wv2 y), .int .u64 (wv1 y), .int .u64 (wv0 y), .int .u64 (wv3 u), .int .u64 (wv2 u), .int .u64 (wv1 u), .int .u64 (wv0 u)]) agt37 sz37 rfl rfl H46 rfl)) ⟨_, rfl, ?_⟩
 exact ⟨rfl, E47⟩
set_option maxHeartbeats 1000000 in
theorem l3Small_ok {w : World}  {na : Bool} {Aa : Option Addr} {la ca : Nat} {x : Int} {sx : Nat} (ha : Num 32 183 .u32 w na Aa la ca x sx) {nb : Bool} {Ab : Option Addr} {lb cb : Nat} {y : Int} {sy : Nat} (hb : Num 32 183 .u32 w nb Ab lb cb y sy) {nm : Bool} {Am : Option Addr} {lm cm : Nat} {u : Int} {su : Nat} (hm : Num 32 183 .u32 w nm Am lm cm u su) (hbsx : sx ≤ 100000) (hbsy : sy ≤ 100000) (hbsu : su ≤ 100000)  : Ct Try.prog 127 [.agg #[.bool na, .slice Aa la ca, .bool nb, .slice Ab lb cb, .bool nm, .slice Am lm cm]] w fun v w1 => v = .bool (decide (sm3 x y u)) ∧ Ext w w1 := by
 refine ct_run (n := 22) Try.func127 rfl Try.ntmps127 rfl ?_
 have E0 : Below w.heap.size w w := Below.refl _ _
 have lha := Num.len (by decide) ha
 have lhb := Num.len (by decide) hb
 have lhm := Num.len (by decide) hm
 refine rk_seq ?_
 refine rk_reg ?_
 refine lw_e (oe_box (v := .agg #[.bool na, .slice Aa la ca, .bool nb, .slice Ab lb cb, .bool nm, .slice Am lm cm]) (cs := #[.bool na, .slice Aa la ca, .bool nb, .slice Ab lb cb, .bool nm, .slice Am lm cm]) (T rfl rfl) rfl ?_)
 intro b1 w2 n3
 have N4 : w.heap.size ≤ b1 := n3.eq ▸ E0.size
 have E5 := below_ext E0 E0.size n3.ext
 refine lw_v (.bool false) (dv_assign C) ?_
 refine lw_nil ?_
 refine rk_seq ?_
 refine rk_reg ?_
 refine lw_v (.pointer (some ⟨b1, 0, none⟩)) (dv_fieldAddr (a := ⟨b1, 0, none⟩) (a' := ⟨b1, 0, none⟩) fo102_0 (T rfl rfl) rfl) ?_
 refine lw_v (.pointer (some ⟨b1, 1, none⟩)) (dv_fieldAddr (a := ⟨b1, 0, none⟩) (a' := ⟨b1, 1, none⟩) fo100_1 (T rfl rfl) rfl) ?_
 refine lw_v (.slice Aa la ca) (dv_load1 (b := b1) (o := 1) agt98 (T rfl rfl) n3.blk rfl) ?_
 have h6 := (ha.ext n3.ext)
 refine lw_e (oe_callf (vs := [.slice Aa la ca]) co167 (ar1 (T rfl rfl)) (l1Bits_wc h6.wc (by first | omega | (simp; done) | (simp; omega))) ?_)
 rintro _ w7 ⟨rfl, e8⟩
 have E9 := below_ext E5 E5.size e8
 refine lw_v (.bool (decide (((nbits ((x.natAbs : Int)).toNat : Int)) ≤ 80))) (dv_leq (a := (nbits ((x.natAbs : Int)).toNat : Int)) (b := 80) (T rfl rfl) C) ?_
 refine lw_v (.bool (decide (((nbits ((x.natAbs : Int)).toNat : Int)) ≤ 80))) (dv_move (T rfl rfl)) ?_
 by_cases hb10 : ((nbits ((x.natAbs : Int)).toNat : Int)) ≤ 80
 · refine lw_vy (.pointer (some ⟨b1, 2, none⟩)) (d := 8) rfl rfl (congrArg Value.bool (decide_eq_true hb10)) (dv_fieldAddr (a := ⟨b1, 0, none⟩) (a' := ⟨b1, 2, none⟩) fo102_1 (T rfl rfl) rfl) ?_
   refine lw_vy (.pointer (some ⟨b1, 3, none⟩)) (d := 8) rfl rfl (congrArg Value.bool (decide_eq_true hb10)) (dv_fieldAddr (a := ⟨b1, 2, none⟩) (a' := ⟨b1, 3, none⟩) fo100_1 (T rfl rfl) rfl) ?_
   have H11 := (e8.blk n3.blk)
   refine lw_vy (.slice Ab lb cb) (d := 8) rfl rfl (congrArg Value.bool (decide_eq_true hb10)) (dv_load1 (b := b1) (o := 3) agt98 (T rfl rfl) H11 rfl) ?_
   have h12 := ((hb.ext n3.ext).ext e8)
   refine lw_ey (d := 8) rfl rfl (congrArg Value.bool (decide_eq_true hb10)) (oe_callf (vs := [.slice Ab lb cb]) co167 (ar1 (T rfl rfl)) (l1Bits_wc h12.wc (by first | omega | (simp; done) | (simp; omega))) ?_)
   rintro _ w13 ⟨rfl, e14⟩
   have E15 := below_ext E9 E9.size e14
   refine lw_vy (.bool (decide (((nbits ((y.natAbs : Int)).toNat : Int)) ≤ 80))) (d := 8) rfl rfl (congrArg Value.bool (decide_eq_true hb10)) (dv_leq (a := (nbits ((y.natAbs : Int)).toNat : Int)) (b := 80) (T rfl rfl) C) ?_
   refine lw_v (.bool (decide (((nbits ((y.natAbs : Int)).toNat : Int)) ≤ 80))) (dv_pick_t (T rfl (congrArg Value.bool (decide_eq_true hb10))) (T rfl rfl)) ?_
   refine lw_v (.bool (decide (((nbits ((y.natAbs : Int)).toNat : Int)) ≤ 80))) (dv_move (T rfl rfl)) ?_
   by_cases hb16 : ((nbits ((y.natAbs : Int)).toNat : Int)) ≤ 80
   · refine lw_vy (.pointer (some ⟨b1, 4, none⟩)) (d := 15) rfl rfl (congrArg Value.bool (decide_eq_true hb16)) (dv_fieldAddr (a := ⟨b1, 0, none⟩) (a' := ⟨b1, 4, none⟩) fo102_2 (T rfl rfl) rfl) ?_
     refine lw_vy (.pointer (some ⟨b1, 5, none⟩)) (d := 15) rfl rfl (congrArg Value.bool (decide_eq_true hb16)) (dv_fieldAddr (a := ⟨b1, 4, none⟩) (a' := ⟨b1, 5, none⟩) fo100_1 (T rfl rfl) rfl) ?_
     have H17 := (e14.blk H11)
     refine lw_vy (.slice Am lm cm) (d := 15) rfl rfl (congrArg Value.bool (decide_eq_true hb16)) (dv_load1 (b := b1) (o := 5) agt98 (T rfl rfl) H17 rfl) ?_
     have h18 := (((hm.ext n3.ext).ext e8).ext e14)
     refine lw_ey (d := 15) rfl rfl (congrArg Value.bool (decide_eq_true hb16)) (oe_callf (vs := [.slice Am lm cm]) co167 (ar1 (T rfl rfl)) (l1Bits_wc h18.wc (by first | omega | (simp; done) | (simp; omega))) ?_)
     rintro _ w19 ⟨rfl, e20⟩
     have E21 := below_ext E15 E15.size e20
     refine lw_vy (.bool (decide (((nbits ((u.natAbs : Int)).toNat : Int)) ≤ 80))) (d := 15) rfl rfl (congrArg Value.bool (decide_eq_true hb16)) (dv_leq (a := (nbits ((u.natAbs : Int)).toNat : Int)) (b := 80) (T rfl rfl) C) ?_
     refine lw_v (.bool (decide (((nbits ((u.natAbs : Int)).toNat : Int)) ≤ 80))) (dv_pick_t (T rfl (congrArg Value.bool (decide_eq_true hb16))) (T rfl rfl)) ?_
     refine lw_v (.bool (decide (((nbits ((u.natAbs : Int)).toNat : Int)) ≤ 80))) (dv_assign (T rfl rfl)) ?_
     refine lw_nil ?_
     refine rk_ret Try.func127 (v := .bool (decide (((nbits ((u.natAbs : Int)).toNat : Int)) ≤ 80))) (res1 Try.results127 (rv_tmp rfl rfl)) ⟨_, rfl, ?_⟩
     exact ⟨(vb (by unfold sm3; omega)), E21⟩
   · refine lw_no (d := 15) rfl rfl (congrArg Value.bool (decide_eq_false hb16)) ?_
     refine lw_no (d := 15) rfl rfl (congrArg Value.bool (decide_eq_false hb16)) ?_
     refine lw_no (d := 15) rfl rfl (congrArg Value.bool (decide_eq_false hb16)) ?_
     refine lw_no (d := 15) rfl rfl (congrArg Value.bool (decide_eq_false hb16)) ?_
     refine lw_no (d := 15) rfl rfl (congrArg Value.bool (decide_eq_false hb16)) ?_
     refine lw_v (.bool false) (dv_pick_f (T rfl (congrArg Value.bool (decide_eq_false hb16))) C) ?_
     refine lw_v (.bool false) (dv_assign (T rfl rfl)) ?_
     refine lw_nil ?_
     refine rk_ret Try.func127 (v := .bool false) (res1 Try.results127 (rv_tmp rfl rfl)) ⟨_, rfl, ?_⟩
     exact ⟨(vf (by unfold sm3; omega)), E15⟩
 · refine lw_no (d := 8) rfl rfl (congrArg Value.bool (decide_eq_false hb10)) ?_
   refine lw_no (d := 8) rfl rfl (congrArg Value.bool (decide_eq_false hb10)) ?_
   refine lw_no (d := 8) rfl rfl (congrArg Value.bool (decide_eq_false hb10)) ?_
   refine lw_no (d := 8) rfl rfl (congrArg Value.bool (decide_eq_false hb10)) ?_
   refine lw_no (d := 8) rfl rfl (congrArg Value.bool (decide_eq_false hb10)) ?_
   refine lw_v (.bool false) (dv_pick_f (T rfl (congrArg Value.bool (decide_eq_false hb10))) C) ?_
   refine lw_v (.bool false) (dv_move (T rfl rfl)) ?_
   refine lw_no (d := 15) rfl rfl (rfl) ?_
   refine lw_no (d := 15) rfl rfl (rfl) ?_
   refine lw_no (d := 15) rfl rfl (rfl) ?_
   refine lw_no (d := 15) rfl rfl (rfl) ?_
   refine lw_no (d := 15) rfl rfl (rfl) ?_
   refine lw_v (.bool false) (dv_pick_f (T rfl rfl) C) ?_
   refine lw_v (.bool false) (dv_assign (T rfl rfl)) ?_
   refine lw_nil ?_
   refine rk_ret Try.func127 (v := .bool false) (res1 Try.results127 (rv_tmp rfl rfl)) ⟨_, rfl, ?_⟩
   exact ⟨(vf (by unfold sm3; omega)), E9⟩
set_option maxHeartbeats 1000000 in
theorem spot_ok {w : World}  {x y u : Int} (fx_ : fits x) (fy_ : fits y) (fu_ : fits u)   : Ct Try.prog 90 [.agg #[.int .u64 (wv3 x), .int .u64 (wv2 x), .int .u64 (wv1 x), .int .u64 (wv0 x), .int .u64 (wv3 y), .int .u64 (wv2 y), .int .u64 (wv1 y), .int .u64 (wv0 y), .int .u64 (wv3 u), .int .u64 (wv2 u), .int .u64 (wv1 u), .int .u64 (wv0 u)]] w fun v w1 => ∃ nr0_ A0_ l0_ c0_ nr1_ A1_ l1_ c1_ nr2_ A2_ l2_ c2_, v = .agg #[.bool nr0_, .slice A0_ l0_ c0_, .bool nr1_, .slice A1_ l1_ c1_, .bool nr2_, .slice A2_ l2_ c2_] ∧ Ext w w1 ∧ Num 64 29 .u64 w1 nr0_ A0_ l0_ c0_ (x) (256) ∧ Num 64 29 .u64 w1 nr1_ A1_ l1_ c1_ (y) (256) ∧ Num 64 29 .u64 w1 nr2_ A2_ l2_ c2_ (u) (256) := by
 refine ct_run (n := 13) Try.func90 rfl Try.ntmps90 rfl ?_
 have E0 : Below w.heap.size w w := Below.refl _ _
 refine rk_seq ?_
 refine rk_reg ?_
 refine lw_e (oe_box (v := .agg #[.int .u64 (wv3 x), .int .u64 (wv2 x), .int .u64 (wv1 x), .int .u64 (wv0 x), .int .u64 (wv3 y), .int .u64 (wv2 y), .int .u64 (wv1 y), .int .u64 (wv0 y), .int .u64 (wv3 u), .int .u64 (wv2 u), .int .u64 (wv1 u), .int .u64 (wv0 u)]) (cs := #[.int .u64 (wv3 x), .int .u64 (wv2 x), .int .u64 (wv1 x), .int .u64 (wv0 x), .int .u64 (wv3 y), .int .u64 (wv2 y), .int .u64 (wv1 y), .int .u64 (wv0 y), .int .u64 (wv3 u), .int .u64 (wv2 u), .int .u64 (wv1 u), .int .u64 (wv0 u)]) (T rfl rfl) rfl ?_)
 intro b1 w2 n3
 have N4 : w.heap.size ≤ b1 := n3.eq ▸ E0.size
 have E5 := below_ext E0 E0.size n3.ext
 refine lw_e (oe_alloc ze122 ?_)
 intro b6 w7 n8
 have N9 : w.heap.size ≤ b6 := n8.eq ▸ E5.size
 have : b1 < b6 := n8.eq ▸ lt_of_blk n3.blk
 have E10 := below_ext E5 E5.size n8.ext
 refine lw_nil ?_
 refine rk_seq ?_
 refine rk_any (fun w => w.heap[b1]? = some (.cells #[.int .u64 (wv3 x), .int .u64 (wv2 x), .int .u64 (wv1 x), .int .u64 (wv0 x), .int .u64 (wv3 y), .int .u64 (wv2 y), .int .u64 (wv1 y), .int .u64 (wv0 y), .int .u64 (wv3 u), .int .u64 (wv2 u), .int .u64 (wv1 u), .int .u64 (wv0 u)] 37)) [10] mo ?_
 intro w11 d12
 have E13 := below_ext E10 E10.size d12.ext
 have H14 := (d12.ext.blk (n8.ext.blk n3.blk))
 refine aw_pure 0 (.pointer (some ⟨b1, 0, none⟩)) rfl (by kernel_rfl) .none H14 (fun _ => dv_fieldAddr (a := ⟨b1, 0, none⟩) (a' := ⟨b1, 0, none⟩) fo37_0 (T rfl rfl) rfl) ?_
 refine aw_load 1 (.agg #[.int .u64 (wv3 x), .int .u64 (wv2 x), .int .u64 (wv1 x), .int .u64 (wv0 x)]) rfl (by kernel_rfl) .none H14 (fun _ s => dv_loads (l := [.int .u64 (wv3 x), .int .u64 (wv2 x), .int .u64 (wv1 x), .int .u64 (wv0 x)]) agt35 sz35 (T rfl rfl) s rfl) ?_
 refine aw_pure 3 (.pointer (some ⟨b1, 4, none⟩)) rfl (by kernel_rfl) .none H14 (fun _ => dv_fieldAddr (a := ⟨b1, 0, none⟩) (a' := ⟨b1, 4, none⟩) fo37_1 (T rfl rfl) rfl) ?_
 refine aw_load 4 (.agg #[.int .u64 (wv3 y), .int .u64 (wv2 y), .int .u64 (wv1 y), .int .u64 (wv0 y)]) rfl (by kernel_rfl) .none H14 (fun _ s => dv_loads (l := [.int .u64 (wv3 y), .int .u64 (wv2 y), .int .u64 (wv1 y), .int .u64 (wv0 y)]) agt35 sz35 (T rfl rfl) s rfl) ?_
 refine aw_pure 6 (.pointer (some ⟨b1, 8, none⟩)) rfl (by kernel_rfl) .none H14 (fun _ => dv_fieldAddr (a := ⟨b1, 0, none⟩) (a' := ⟨b1, 8, none⟩) fo37_2 (T rfl rfl) rfl) ?_
 refine aw_load 7 (.agg #[.int .u64 (wv3 u), .int .u64 (wv2 u), .int .u64 (wv1 u), .int .u64 (wv0 u)]) rfl (by kernel_rfl) .none H14 (fun _ s => dv_loads (l := [.int .u64 (wv3 u), .int .u64 (wv2 u), .int .u64 (wv1 u), .int .u64 (wv0 u)]) agt35 sz35 (T rfl rfl) s rfl) ?_
 refine aw_one 2 rfl (by kernel_rfl) .none (oe_callf (vs := [.agg #[.int .u64 (wv3 x), .int .u64 (wv2 x), .int .u64 (wv1 x), .int .u64 (wv0 x)]]) co146 (ar1 (T rfl rfl)) (wnumz_ok (z := x) fx_) ?_)
 rintro _ w20 ⟨nr15, A16, n17, c18, rfl, e21, h19⟩
 have E22 := below_ext E13 E13.size e21
 have lh19 := Num.len (by decide) h19
 have H23 := (e21.blk H14)
 refine ⟨.inr H23, ?_⟩
 refine aw_one 5 rfl (by kernel_rfl) .none (oe_callf (vs := [.agg #[.int .u64 (wv3 y), .int .u64 (wv2 y), .int .u64 (wv1 y), .int .u64 (wv0 y)]]) co146 (ar1 (T rfl rfl)) (wnumz_ok (z := y) fy_) ?_)
 rintro _ w29 ⟨nr24, A25, n26, c27, rfl, e30, h28⟩
 have E31 := below_ext E22 E22.size e30
 have lh28 := Num.len (by decide) h28
 have H32 := (e30.blk H23)
 refine ⟨.inr H32, ?_⟩
 refine aw_one 8 rfl (by kernel_rfl) .none (oe_callf (vs := [.agg #[.int .u64 (wv3 u), .int .u64 (wv2 u), .int .u64 (wv1 u), .int .u64 (wv0 u)]]) co146 (ar1 (T rfl rfl)) (wnumz_ok (z := u) fu_) ?_)
 rintro _ w38 ⟨nr33, A34, n35, c36, rfl, e39, h37⟩
 have E40 := below_ext E31 E31.size e39
 have lh37 := Num.len (by decide) h37
 have H41 := (e39.blk H32)
 refine ⟨.inr H41, ?_⟩
 refine aw_pure 9 (.agg #[.bool nr15, .slice A16 n17 c18, .bool nr24, .slice A25 n26 c27, .bool nr33, .slice A34 n35 c36]) rfl (by kernel_rfl) .none H41 (fun _ => dv_build (pv := [(0, .agg #[.bool nr15, .slice A16 n17 c18]), (1, .agg #[.bool nr24, .slice A25 n26 c27]), (2, .agg #[.bool nr33, .slice A34 n35 c36])]) (l := [.bool nr15, .slice A16 n17 c18, .bool nr24, .slice A25 n26 c27, .bool nr33, .slice A34 n35 c36]) zc122 pl122 ⟨rfl, (T rfl rfl), ⟨rfl, (T rfl rfl), ⟨rfl, (T rfl rfl), trivial⟩⟩⟩ rfl) ?_
 have H42 := (e39.blk (e30.blk (e21.blk (d12.ext.blk n8.blk))))
 refine aw_one 10 rfl (by kernel_rfl) .none (oe_store (v := .agg #[.bool nr15, .slice A16 n17 c18, .bool nr24, .slice A25 n26 c27, .bool nr33, .slice A34 n35 c36]) (vs := [.bool nr15, .slice A16 n17 c18, .bool nr24, .slice A25 n26 c27, .bool nr33, .slice A34 n35 c36]) (l := [.bool nr15, .slice A16 n17 c18, .bool nr24, .slice A25 n26 c27, .bool nr33, .slice A34 n35 c36]) (T rfl rfl) (T rfl rfl) sz122 rfl rfl rfl H42 rfl ?_)
 intro w43 s44 H45
 have E46 := below_st E40 N9 s44
 refine ⟨.inl rfl, ?_⟩
 refine aw_done (by kernel_rfl) ?_
 refine rk_ret Try.func90 (v := .agg #[.bool nr15, .slice A16 n17 c18, .bool nr24, .slice A25 n26 c27, .bool nr33, .slice A34 n35 c36]) (res1 Try.results90 (rv_cells (l := [.bool nr15, .slice A16 n17 c18, .bool nr24, .slice A25 n26 c27, .bool nr33, .slice A34 n35 c36]) agt122 sz122 rfl rfl H45 rfl)) ⟨_, rfl, ?_⟩
 have h47 := (((h19.ext e30).ext e39).st s44 H42 (by decide))
 have h48 := ((h28.ext e39).st s44 H42 (by decide))
 have h49 := (h37.st s44 H42 (by decide))
 exact ⟨_, _, _, _, _, _, _, _, _, _, _, _, rfl, E46, h47.to rfl (Nat.le_refl _), h48.to rfl (Nat.le_refl _), h49.to rfl (Nat.le_refl _)⟩
set_option maxHeartbeats 1000000 in
theorem l3Of_ok {w : World}  {x y u : Int} (fx_ : fits x) (fy_ : fits y) (fu_ : fits u)   : Ct Try.prog 69 [.agg #[.int .u64 (wv3 x), .int .u64 (wv2 x), .int .u64 (wv1 x), .int .u64 (wv0 x), .int .u64 (wv3 y), .int .u64 (wv2 y), .int .u64 (wv1 y), .int .u64 (wv0 y), .int .u64 (wv3 u), .int .u64 (wv2 u), .int .u64 (wv1 u), .int .u64 (wv0 u)]] w fun v w1 => ∃ nr0_ A0_ l0_ c0_ nr1_ A1_ l1_ c1_ nr2_ A2_ l2_ c2_, v = .agg #[.bool nr0_, .slice A0_ l0_ c0_, .bool nr1_, .slice A1_ l1_ c1_, .bool nr2_, .slice A2_ l2_ c2_] ∧ Ext w w1 ∧ Num 32 183 .u32 w1 nr0_ A0_ l0_ c0_ (x) (256) ∧ Num 32 183 .u32 w1 nr1_ A1_ l1_ c1_ (y) (256) ∧ Num 32 183 .u32 w1 nr2_ A2_ l2_ c2_ (u) (256) := by
 refine ct_run (n := 13) Try.func69 rfl Try.ntmps69 rfl ?_
 have E0 : Below w.heap.size w w := Below.refl _ _
 refine rk_seq ?_
 refine rk_reg ?_
 refine lw_e (oe_box (v := .agg #[.int .u64 (wv3 x), .int .u64 (wv2 x), .int .u64 (wv1 x), .int .u64 (wv0 x), .int .u64 (wv3 y), .int .u64 (wv2 y), .int .u64 (wv1 y), .int .u64 (wv0 y), .int .u64 (wv3 u), .int .u64 (wv2 u), .int .u64 (wv1 u), .int .u64 (wv0 u)]) (cs := #[.int .u64 (wv3 x), .int .u64 (wv2 x), .int .u64 (wv1 x), .int .u64 (wv0 x), .int .u64 (wv3 y), .int .u64 (wv2 y), .int .u64 (wv1 y), .int .u64 (wv0 y), .int .u64 (wv3 u), .int .u64 (wv2 u), .int .u64 (wv1 u), .int .u64 (wv0 u)]) (T rfl rfl) rfl ?_)
 intro b1 w2 n3
 have N4 : w.heap.size ≤ b1 := n3.eq ▸ E0.size
 have E5 := below_ext E0 E0.size n3.ext
 refine lw_e (oe_alloc ze102 ?_)
 intro b6 w7 n8
 have N9 : w.heap.size ≤ b6 := n8.eq ▸ E5.size
 have : b1 < b6 := n8.eq ▸ lt_of_blk n3.blk
 have E10 := below_ext E5 E5.size n8.ext
 refine lw_nil ?_
 refine rk_seq ?_
 refine rk_any (fun w => w.heap[b1]? = some (.cells #[.int .u64 (wv3 x), .int .u64 (wv2 x), .int .u64 (wv1 x), .int .u64 (wv0 x), .int .u64 (wv3 y), .int .u64 (wv2 y), .int .u64 (wv1 y), .int .u64 (wv0 y), .int .u64 (wv3 u), .int .u64 (wv2 u), .int .u64 (wv1 u), .int .u64 (wv0 u)] 37)) [10] mo ?_
 intro w11 d12
 have E13 := below_ext E10 E10.size d12.ext
 have H14 := (d12.ext.blk (n8.ext.blk n3.blk))
 refine aw_pure 0 (.pointer (some ⟨b1, 0, none⟩)) rfl (by kernel_rfl) .none H14 (fun _ => dv_fieldAddr (a := ⟨b1, 0, none⟩) (a' := ⟨b1, 0, none⟩) fo37_0 (T rfl rfl) rfl) ?_
 refine aw_load 1 (.agg #[.int .u64 (wv3 x), .int .u64 (wv2 x), .int .u64 (wv1 x), .int .u64 (wv0 x)]) rfl (by kernel_rfl) .none H14 (fun _ s => dv_loads (l := [.int .u64 (wv3 x), .int .u64 (wv2 x), .int .u64 (wv1 x), .int .u64 (wv0 x)]) agt35 sz35 (T rfl rfl) s rfl) ?_
 refine aw_pure 3 (.pointer (some ⟨b1, 4, none⟩)) rfl (by kernel_rfl) .none H14 (fun _ => dv_fieldAddr (a := ⟨b1, 0, none⟩) (a' := ⟨b1, 4, none⟩) fo37_1 (T rfl rfl) rfl) ?_
 refine aw_load 4 (.agg #[.int .u64 (wv3 y), .int .u64 (wv2 y), .int .u64 (wv1 y), .int .u64 (wv0 y)]) rfl (by kernel_rfl) .none H14 (fun _ s => dv_loads (l := [.int .u64 (wv3 y), .int .u64 (wv2 y), .int .u64 (wv1 y), .int .u64 (wv0 y)]) agt35 sz35 (T rfl rfl) s rfl) ?_
 refine aw_pure 6 (.pointer (some ⟨b1, 8, none⟩)) rfl (by kernel_rfl) .none H14 (fun _ => dv_fieldAddr (a := ⟨b1, 0, none⟩) (a' := ⟨b1, 8, none⟩) fo37_2 (T rfl rfl) rfl) ?_
 refine aw_load 7 (.agg #[.int .u64 (wv3 u), .int .u64 (wv2 u), .int .u64 (wv1 u), .int .u64 (wv0 u)]) rfl (by kernel_rfl) .none H14 (fun _ s => dv_loads (l := [.int .u64 (wv3 u), .int .u64 (wv2 u), .int .u64 (wv1 u), .int .u64 (wv0 u)]) agt35 sz35 (T rfl rfl) s rfl) ?_
 refine aw_one 2 rfl (by kernel_rfl) .none (oe_callf (vs := [.agg #[.int .u64 (wv3 x), .int .u64 (wv2 x), .int .u64 (wv1 x), .int .u64 (wv0 x)]]) co130 (ar1 (T rfl rfl)) (l1Fromz_ok (z := x) fx_) ?_)
 rintro _ w20 ⟨nr15, A16, n17, c18, rfl, e21, h19⟩
 have E22 := below_ext E13 E13.size e21
 have lh19 := Num.len (by decide) h19
 have H23 := (e21.blk H14)
 refine ⟨.inr H23, ?_⟩
 refine aw_one 5 rfl (by kernel_rfl) .none (oe_callf (vs := [.agg #[.int .u64 (wv3 y), .int .u64 (wv2 y), .int .u64 (wv1 y), .int .u64 (wv0 y)]]) co130 (ar1 (T rfl rfl)) (l1Fromz_ok (z := y) fy_) ?_)
 rintro _ w29 ⟨nr24, A25, n26, c27, rfl, e30, h28⟩
 have E31 := below_ext E22 E22.size e30
 have lh28 := Num.len (by decide) h28
 have H32 := (e30.blk H23)
 refine ⟨.inr H32, ?_⟩
 refine aw_one 8 rfl (by kernel_rfl) .none (oe_callf (vs := [.agg #[.int .u64 (wv3 u), .int .u64 (wv2 u), .int .u64 (wv1 u), .int .u64 (wv0 u)]]) co130 (ar1 (T rfl rfl)) (l1Fromz_ok (z := u) fu_) ?_)
 rintro _ w38 ⟨nr33, A34, n35, c36, rfl, e39, h37⟩
 have E40 := below_ext E31 E31.size e39
 have lh37 := Num.len (by decide) h37
 have H41 := (e39.blk H32)
 refine ⟨.inr H41, ?_⟩
 refine aw_pure 9 (.agg #[.bool nr15, .slice A16 n17 c18, .bool nr24, .slice A25 n26 c27, .bool nr33, .slice A34 n35 c36]) rfl (by kernel_rfl) .none H41 (fun _ => dv_build (pv := [(0, .agg #[.bool nr15, .slice A16 n17 c18]), (1, .agg #[.bool nr24, .slice A25 n26 c27]), (2, .agg #[.bool nr33, .slice A34 n35 c36])]) (l := [.bool nr15, .slice A16 n17 c18, .bool nr24, .slice A25 n26 c27, .bool nr33, .slice A34 n35 c36]) zc102 pl102 ⟨rfl, (T rfl rfl), ⟨rfl, (T rfl rfl), ⟨rfl, (T rfl rfl), trivial⟩⟩⟩ rfl) ?_
 have H42 := (e39.blk (e30.blk (e21.blk (d12.ext.blk n8.blk))))
 refine aw_one 10 rfl (by kernel_rfl) .none (oe_store (v := .agg #[.bool nr15, .slice A16 n17 c18, .bool nr24, .slice A25 n26 c27, .bool nr33, .slice A34 n35 c36]) (vs := [.bool nr15, .slice A16 n17 c18, .bool nr24, .slice A25 n26 c27, .bool nr33, .slice A34 n35 c36]) (l := [.bool nr15, .slice A16 n17 c18, .bool nr24, .slice A25 n26 c27, .bool nr33, .slice A34 n35 c36]) (T rfl rfl) (T rfl rfl) sz102 rfl rfl rfl H42 rfl ?_)
 intro w43 s44 H45
 have E46 := below_st E40 N9 s44
 refine ⟨.inl rfl, ?_⟩
 refine aw_done (by kernel_rfl) ?_
 refine rk_ret Try.func69 (v := .agg #[.bool nr15, .slice A16 n17 c18, .bool nr24, .slice A25 n26 c27, .bool nr33, .slice A34 n35 c36]) (res1 Try.results69 (rv_cells (l := [.bool nr15, .slice A16 n17 c18, .bool nr24, .slice A25 n26 c27, .bool nr33, .slice A34 n35 c36]) agt102 sz102 rfl rfl H45 rfl)) ⟨_, rfl, ?_⟩
 have h47 := (((h19.ext e30).ext e39).st s44 H42 (by decide))
 have h48 := ((h28.ext e39).st s44 H42 (by decide))
 have h49 := (h37.st s44 H42 (by decide))
 exact ⟨_, _, _, _, _, _, _, _, _, _, _, _, rfl, E46, h47.to rfl (Nat.le_refl _), h48.to rfl (Nat.le_refl _), h49.to rfl (Nat.le_refl _)⟩
set_option maxHeartbeats 1000000 in
theorem sPointOk_ok {w : World} {x y u : Int} (fx_ : fits x) (fy_ : fits y) (fu_ : fits u)  : Ct Try.prog 67 [.agg #[.int .u64 (wv3 x), .int .u64 (wv2 x), .int .u64 (wv1 x), .int .u64 (wv0 x), .int .u64 (wv3 y), .int .u64 (wv2 y), .int .u64 (wv1 y), .int .u64 (wv0 y), .int .u64 (wv3 u), .int .u64 (wv2 u), .int .u64 (wv1 u), .int .u64 (wv0 u)]] w fun v w1 => v = .bool (decide (pOk x y u)) ∧ Ext w w1 := by
 refine ct_run (n := 27) Try.func67 rfl Try.ntmps67 rfl ?_
 have E0 : Below w.heap.size w w := Below.refl _ _
 refine rk_seq ?_
 refine rk_reg ?_
 refine lw_e (oe_box (v := .agg #[.int .u64 (wv3 x), .int .u64 (wv2 x), .int .u64 (wv1 x), .int .u64 (wv0 x), .int .u64 (wv3 y), .int .u64 (wv2 y), .int .u64 (wv1 y), .int .u64 (wv0 y), .int .u64 (wv3 u), .int .u64 (wv2 u), .int .u64 (wv1 u), .int .u64 (wv0 u)]) (cs := #[.int .u64 (wv3 x), .int .u64 (wv2 x), .int .u64 (wv1 x), .int .u64 (wv0 x), .int .u64 (wv3 y), .int .u64 (wv2 y), .int .u64 (wv1 y), .int .u64 (wv0 y), .int .u64 (wv3 u), .int .u64 (wv2 u), .int .u64 (wv1 u), .int .u64 (wv0 u)]) (T rfl rfl) rfl ?_)
 intro b1 w2 n3
 have N4 : w.heap.size ≤ b1 := n3.eq ▸ E0.size
 have E5 := below_ext E0 E0.size n3.ext
 refine lw_v (.bool false) (dv_assign C) ?_
 refine lw_nil ?_
 refine rk_seq ?_
 refine rk_reg ?_
 refine lw_v (.agg #[.int .u64 (wv3 x), .int .u64 (wv2 x), .int .u64 (wv1 x), .int .u64 (wv0 x), .int .u64 (wv3 y), .int .u64 (wv2 y), .int .u64 (wv1 y), .int .u64 (wv0 y), .int .u64 (wv3 u), .int .u64 (wv2 u), .int .u64 (wv1 u), .int .u64 (wv0 u)]) (dv_loads (l := [.int .u64 (wv3 x), .int .u64 (wv2 x), .int .u64 (wv1 x), .int .u64 (wv0 x), .int .u64 (wv3 y), .int .u64 (wv2 y), .int .u64 (wv1 y), .int .u64 (wv0 y), .int .u64 (wv3 u), .int .u64 (wv2 u), .int .u64 (wv1 u), .int .u64 (wv0 u)]) agt37 sz37 (T rfl rfl) n3.blk rfl) ?_
 refine lw_e (oe_callf (vs := [.agg #[.int .u64 (wv3 x), .int .u64 (wv2 x), .int .u64 (wv1 x), .int .u64 (wv0 x), .int .u64 (wv3 y), .int .u64 (wv2 y), .int .u64 (wv1 y), .int .u64 (wv0 y), .int .u64 (wv3 u), .int .u64 (wv2 u), .int .u64 (wv1 u), .int .u64 (wv0 u)]]) co69 (ar1 (T rfl rfl)) (l3Of_ok fx_ fy_ fu_  ) ?_)
 rintro _ w21 ⟨nr6, A7, n8, c9, nr10, A11, n12, c13, nr14, A15, n16, c17, rfl, e22, h18, h19, h20⟩
 have E23 := below_ext E5 E5.size e22
 have lh18 := Num.len (by decide) h18
 have lh19 := Num.len (by decide) h19
 have lh20 := Num.len (by decide) h20
 refine lw_e (oe_alloc ze102 ?_)
 intro b24 w25 n26
 have N27 : w.heap.size ≤ b24 := n26.eq ▸ E23.size
 have H28 := (e22.blk n3.blk)
 have : b1 < b24 := n26.eq ▸ lt_of_blk H28
 have E29 := below_ext E23 E23.size n26.ext
 refine lw_e (oe_store (v := .agg #[.bool nr6, .slice A7 n8 c9, .bool nr10, .slice A11 n12 c13, .bool nr14, .slice A15 n16 c17]) (vs := [.bool nr6, .slice A7 n8 c9, .bool nr10, .slice A11 n12 c13, .bool nr14, .slice A15 n16 c17]) (l := [.bool nr6, .slice A7 n8 c9, .bool nr10, .slice A11 n12 c13, .bool nr14, .slice A15 n16 c17]) (T rfl rfl) (T rfl rfl) sz102 rfl rfl rfl n26.blk rfl ?_)
 intro w30 s31 H32
 have E33 := below_st E29 N27 s31
 refine lw_nil ?_
 refine rk_seq ?_
 refine rk_any (fun w => w.heap[b24]? = some (.cells #[.bool nr6, .slice A7 n8 c9, .bool nr10, .slice A11 n12 c13, .bool nr14, .slice A15 n16 c17] 102)) [21] mo ?_
 intro w34 d35
 have E36 := below_ext E33 E33.size d35.ext
 have H37 := (d35.ext.blk H32)
 refine aw_pure 0 (.pointer (some ⟨b24, 4, none⟩)) rfl (by kernel_rfl) .none H37 (fun _ => dv_fieldAddr (a := ⟨b24, 0, none⟩) (a' := ⟨b24, 4, none⟩) fo102_2 (T rfl rfl) rfl) ?_
 refine aw_load 1 (.agg #[.bool nr14, .slice A15 n16 c17]) rfl (by kernel_rfl) .none H37 (fun _ s => dv_loads (l := [.bool nr14, .slice A15 n16 c17]) agt100 sz100 (T rfl rfl) s rfl) ?_
 have h38 := (((h20.ext n26.ext).st s31 n26.blk (by decide)).ext d35.ext)
 refine aw_one 2 rfl (by kernel_rfl) .none (oe_callf (vs := [.agg #[.bool nr14, .slice A15 n16 c17]]) co126 (ar1 (T rfl rfl)) (l1Sign_ok h38 ) ?_)
 rintro _ w39 ⟨rfl, e40⟩
 have E41 := below_ext E36 E36.size e40
 have H42 := (e40.blk H37)
 refine ⟨.inr H42, ?_⟩
 refine aw_pure 3 (.bool (decide (0 < (sgnI u)))) rfl (by kernel_rfl) .none H42 (fun _ => dv_gtr (a := sgnI u) (b := 0) (T rfl rfl) C) ?_
 refine aw_pure 4 (.bool (decide (0 < (sgnI u)))) rfl (by kernel_rfl) .none H42 (fun _ => dv_move (T rfl rfl)) ?_
 by_cases hb43 : 0 < (sgnI u)
 · refine aw_load 5 (.agg #[.bool nr6, .slice A7 n8 c9, .bool nr10, .slice A11 n12 c13, .bool nr14, .slice A15 n16 c17]) rfl (by kernel_rfl) (.yes (d := 10) rfl rfl (congrArg Value.bool (decide_eq_true hb43))) H42 (fun _ s => dv_loads (l := [.bool nr6, .slice A7 n8 c9, .bool nr10, .slice A11 n12 c13, .bool nr14, .slice A15 n16 c17]) agt102 sz102 (T rfl rfl) s rfl) ?_
   have h44 := ((((h18.ext n26.ext).st s31 n26.blk (by decide)).ext d35.ext).ext e40)
   have h45 := ((((h19.ext n26.ext).st s31 n26.blk (by decide)).ext d35.ext).ext e40)
   have h46 := (h38.ext e40)
   refine aw_one 6 rfl (by kernel_rfl) (.yes (d := 10) rfl rfl (congrArg Value.bool (decide_eq_true hb43))) (oe_callf (vs := [.agg #[.bool nr6, .slice A7 n8 c9, .bool nr10, .slice A11 n12 c13, .bool nr14, .slice A15 n16 c17]]) co127 (ar1 (T rfl rfl)) (l3Small_ok h44 h45 h46 (by first | decide | omega) (by first | decide | omega) (by first | decide | omega) ) ?_)
   rintro _ w47 ⟨rfl, e48⟩
   have E49 := below_ext E41 E41.size e48
   have H50 := (e48.blk H42)
   refine ⟨.inr H50, ?_⟩
   refine aw_pure 7 (.bool (decide (sm3 x y u))) rfl (by kernel_rfl) .none H50 (fun _ => dv_pick_t (T rfl (congrArg Value.bool (decide_eq_true hb43))) (T rfl rfl)) ?_
   refine aw_pure 8 (.bool (decide (sm3 x y u))) rfl (by kernel_rfl) .none H50 (fun _ => dv_move (T rfl rfl)) ?_
   by_cases hb51 : sm3 x y u
   · refine aw_pure 9 (.pointer (some ⟨b24, 0, none⟩)) rfl (by kernel_rfl) (.yes (d := 14) rfl rfl (congrArg Value.bool (decide_eq_true hb51))) H50 (fun _ => dv_fieldAddr (a := ⟨b24, 0, none⟩) (a' := ⟨b24, 0, none⟩) fo102_0 (T rfl rfl) rfl) ?_
     refine aw_load 10 (.agg #[.bool nr6, .slice A7 n8 c9]) rfl (by kernel_rfl) (.yes (d := 14) rfl rfl (congrArg Value.bool (decide_eq_true hb51))) H50 (fun _ s => dv_loads (l := [.bool nr6, .slice A7 n8 c9]) agt100 sz100 (T rfl rfl) s rfl) ?_
     refine aw_pure 11 (.pointer (some ⟨b24, 2, none⟩)) rfl (by kernel_rfl) (.yes (d := 14) rfl rfl (congrArg Value.bool (decide_eq_true hb51))) H50 (fun _ => dv_fieldAddr (a := ⟨b24, 0, none⟩) (a' := ⟨b24, 2, none⟩) fo102_1 (T rfl rfl) rfl) ?_
     refine aw_load 12 (.agg #[.bool nr10, .slice A11 n12 c13]) rfl (by kernel_rfl) (.yes (d := 14) rfl rfl (congrArg Value.bool (decide_eq_true hb51))) H50 (fun _ s => dv_loads (l := [.bool nr10, .slice A11 n12 c13]) agt100 sz100 (T rfl rfl) s rfl) ?_
     refine aw_pure 14 (.pointer (some ⟨b24, 4, none⟩)) rfl (by kernel_rfl) (.yes (d := 14) rfl rfl (congrArg Value.bool (decide_eq_true hb51))) H50 (fun _ => dv_fieldAddr (a := ⟨b24, 0, none⟩) (a' := ⟨b24, 4, none⟩) fo102_2 (T rfl rfl) rfl) ?_
     refine aw_load 15 (.agg #[.bool nr14, .slice A15 n16 c17]) rfl (by kernel_rfl) (.yes (d := 14) rfl rfl (congrArg Value.bool (decide_eq_true hb51))) H50 (fun _ s => dv_loads (l := [.bool nr14, .slice A15 n16 c17]) agt100 sz100 (T rfl rfl) s rfl) ?_
     have h52 := (h44.ext e48)
     have h53 := (h45.ext e48)
     refine aw_one 13 rfl (by kernel_rfl) (.yes (d := 14) rfl rfl (congrArg Value.bool (decide_eq_true hb51))) (oe_callf (vs := [.agg #[.bool nr6, .slice A7 n8 c9], .agg #[.bool nr10, .slice A11 n12 c13]]) co129 (ar2 (T rfl rfl) (T rfl rfl)) (l1Gcd_ok h52 h53 (by first | decide | omega) (by first | decide | omega)) ?_)
     rintro _ w59 ⟨nr54, A55, n56, c57, rfl, e60, h58⟩
     have E61 := below_ext E49 E49.size e60
     have lh58 := Num.len (by decide) h58
     have H62 := (e60.blk H50)
     refine ⟨.inr H62, ?_⟩
     have h63 := ((h46.ext e48).ext e60)
     refine aw_one 16 rfl (by kernel_rfl) (.yes (d := 14) rfl rfl (congrArg Value.bool (decide_eq_true hb51))) (oe_callf (vs := [.agg #[.bool nr54, .slice A55 n56 c57], .agg #[.bool nr14, .slice A15 n16 c17]]) co129 (ar2 (T rfl rfl) (T rfl rfl)) (l1Gcd_ok h58 h63 (by first | decide | omega) (by first | decide | omega)) ?_)
     rintro _ w69 ⟨nr64, A65, n66, c67, rfl, e70, h68⟩
     have E71 := below_ext E61 E61.size e70
     have lh68 := Num.len (by decide) h68
     have H72 := (e70.blk H62)
     refine ⟨.inr H72, ?_⟩
     refine aw_one 17 rfl (by kernel_rfl) (.yes (d := 14) rfl rfl (congrArg Value.bool (decide_eq_true hb51))) (oe_callf (vs := [.int .i64 1]) co100 (ar1 C) (l1Int_ok  (by omega)) ?_)
     rintro _ w78 ⟨nr73, A74, n75, c76, rfl, e79, h77⟩
     have E80 := below_ext E71 E71.size e79
     have lh77 := Num.len (by decide) h77
     have H81 := (e79.blk H72)
     refine ⟨.inr H81, ?_⟩
     have h82 := (h68.ext e79)
     refine aw_one 18 rfl (by kernel_rfl) (.yes (d := 14) rfl rfl (congrArg Value.bool (decide_eq_true hb51))) (oe_callf (vs := [.agg #[.bool nr64, .slice A65 n66 c67], .agg #[.bool nr73, .slice A74 n75 c76]]) co128 (ar2 (T rfl rfl) (T rfl rfl)) (l1Cmp_ok h82 h77 (by first | decide | omega) (by first | decide | omega)) ?_)
     rintro _ w83 ⟨rfl, e84⟩
     have E85 := below_ext E80 E80.size e84
     have H86 := (e84.blk H81)
     refine ⟨.inr H86, ?_⟩
     refine aw_pure 19 (.bool (decide ((sgnI ((gI (gI x y) u) - 1)) = 0))) rfl (by kernel_rfl) (.yes (d := 14) rfl rfl (congrArg Value.bool (decide_eq_true hb51))) H86 (fun _ => dv_eql (a := sgnI ((gI (gI x y) u) - 1)) (b := 0) (T rfl rfl) C) ?_
     refine aw_pure 20 (.bool (decide ((sgnI ((gI (gI x y) u) - 1)) = 0))) rfl (by kernel_rfl) .none H86 (fun _ => dv_pick_t (T rfl (congrArg Value.bool (decide_eq_true hb51))) (T rfl rfl)) ?_
     refine aw_last 21 (.bool (decide ((sgnI ((gI (gI x y) u) - 1)) = 0))) rfl (by kernel_rfl) .none (fun _ => dv_assign (T rfl rfl)) ?_
     refine aw_done (by kernel_rfl) ?_
     refine rk_ret Try.func67 (v := .bool (decide ((sgnI ((gI (gI x y) u) - 1)) = 0))) (res1 Try.results67 (rv_tmp rfl rfl)) ⟨_, rfl, ?_⟩
     have h1 : sm3 x y u := by first | assumption | exact sm3_iff.2 (mx3.1 ‹_›)
     have h2 : 0 < u := sgnI_gt.1 (by assumption)
     have h3 := @sgnI_zero (gI3 x y u - 1)
     exact ⟨(vb ⟨fun hh => ⟨h2, h1, by have := h3.1 hh; omega⟩, fun hh => h3.2 (by have := hh.2.2; omega)⟩), E85⟩
   · refine aw_no 9 rfl (by kernel_rfl) (d := 14) rfl rfl (congrArg Value.bool (decide_eq_false hb51)) H50 ?_
     refine aw_no 10 rfl (by kernel_rfl) (d := 14) rfl rfl (congrArg Value.bool (decide_eq_false hb51)) H50 ?_
     refine aw_no 11 rfl (by kernel_rfl) (d := 14) rfl rfl (congrArg Value.bool (decide_eq_false hb51)) H50 ?_
     refine aw_no 12 rfl (by kernel_rfl) (d := 14) rfl rfl (congrArg Value.bool (decide_eq_false hb51)) H50 ?_
     refine aw_no 13 rfl (by kernel_rfl) (d := 14) rfl rfl (congrArg Value.bool (decide_eq_false hb51)) H50 ?_
     refine aw_no 14 rfl (by kernel_rfl) (d := 14) rfl rfl (congrArg Value.bool (decide_eq_false hb51)) H50 ?_
     refine aw_no 15 rfl (by kernel_rfl) (d := 14) rfl rfl (congrArg Value.bool (decide_eq_false hb51)) H50 ?_
     refine aw_no 16 rfl (by kernel_rfl) (d := 14) rfl rfl (congrArg Value.bool (decide_eq_false hb51)) H50 ?_
     refine aw_no 17 rfl (by kernel_rfl) (d := 14) rfl rfl (congrArg Value.bool (decide_eq_false hb51)) H50 ?_
     refine aw_no 18 rfl (by kernel_rfl) (d := 14) rfl rfl (congrArg Value.bool (decide_eq_false hb51)) H50 ?_
     refine aw_no 19 rfl (by kernel_rfl) (d := 14) rfl rfl (congrArg Value.bool (decide_eq_false hb51)) H50 ?_
     refine aw_pure 20 (.bool false) rfl (by kernel_rfl) .none H50 (fun _ => dv_pick_f (T rfl (congrArg Value.bool (decide_eq_false hb51))) C) ?_
     refine aw_last 21 (.bool false) rfl (by kernel_rfl) .none (fun _ => dv_assign (T rfl rfl)) ?_
     refine aw_done (by kernel_rfl) ?_
     refine rk_ret Try.func67 (v := .bool false) (res1 Try.results67 (rv_tmp rfl rfl)) ⟨_, rfl, ?_⟩
     exact ⟨(vf (by intro hh; have h1 := sgnI_gt.2 hh.1; have h2 := hh.2.1; first | (exact absurd h2 (by assumption)) | (exact absurd (mx3.2 (sm3_iff.1 h2)) (by assumption)) | contradiction | omega)), E49⟩
 · refine aw_no 5 rfl (by kernel_rfl) (d := 10) rfl rfl (congrArg Value.bool (decide_eq_false hb43)) H42 ?_
   refine aw_no 6 rfl (by kernel_rfl) (d := 10) rfl rfl (congrArg Value.bool (decide_eq_false hb43)) H42 ?_
   refine aw_pure 7 (.bool false) rfl (by kernel_rfl) .none H42 (fun _ => dv_pick_f (T rfl (congrArg Value.bool (decide_eq_false hb43))) C) ?_
   refine aw_pure 8 (.bool false) rfl (by kernel_rfl) .none H42 (fun _ => dv_move (T rfl rfl)) ?_
   refine aw_no 9 rfl (by kernel_rfl) (d := 14) rfl rfl (rfl) H42 ?_
   refine aw_no 10 rfl (by kernel_rfl) (d := 14) rfl rfl (rfl) H42 ?_
   refine aw_no 11 rfl (by kernel_rfl) (d := 14) rfl rfl (rfl) H42 ?_
   refine aw_no 12 rfl (by kernel_rfl) (d := 14) rfl rfl (rfl) H42 ?_
   refine aw_no 13 rfl (by kernel_rfl) (d := 14) rfl rfl (rfl) H42 ?_
   refine aw_no 14 rfl (by kernel_rfl) (d := 14) rfl rfl (rfl) H42 ?_
   refine aw_no 15 rfl (by kernel_rfl) (d := 14) rfl rfl (rfl) H42 ?_
   refine aw_no 16 rfl (by kernel_rfl) (d := 14) rfl rfl (rfl) H42 ?_
   refine aw_no 17 rfl (by kernel_rfl) (d := 14) rfl rfl (rfl) H42 ?_
   refine aw_no 18 rfl (by kernel_rfl) (d := 14) rfl rfl (rfl) H42 ?_
   refine aw_no 19 rfl (by kernel_rfl) (d := 14) rfl rfl (rfl) H42 ?_
   refine aw_pure 20 (.bool false) rfl (by kernel_rfl) .none H42 (fun _ => dv_pick_f (T rfl rfl) C) ?_
   refine aw_last 21 (.bool false) rfl (by kernel_rfl) .none (fun _ => dv_assign (T rfl rfl)) ?_
   refine aw_done (by kernel_rfl) ?_
   refine rk_ret Try.func67 (v := .bool false) (res1 Try.results67 (rv_tmp rfl rfl)) ⟨_, rfl, ?_⟩
   exact ⟨(vf (by intro hh; have h1 := sgnI_gt.2 hh.1; have h2 := hh.2.1; first | (exact absurd h2 (by assumption)) | (exact absurd (mx3.2 (sm3_iff.1 h2)) (by assumption)) | contradiction | omega)), E41⟩
set_option maxHeartbeats 1000000 in
theorem iPointOk_ok {w : World} {x y u : Int} (fx_ : fits x) (fy_ : fits y) (fu_ : fits u)  : Ct Try.prog 75 [.agg #[.int .u64 (wv3 x), .int .u64 (wv2 x), .int .u64 (wv1 x), .int .u64 (wv0 x), .int .u64 (wv3 y), .int .u64 (wv2 y), .int .u64 (wv1 y), .int .u64 (wv0 y), .int .u64 (wv3 u), .int .u64 (wv2 u), .int .u64 (wv1 u), .int .u64 (wv0 u)]] w fun v w1 => v = .bool (decide (pOk x y u)) ∧ Ext w w1 := by
 refine ct_run (n := 36) Try.func75 rfl Try.ntmps75 rfl ?_
 have E0 : Below w.heap.size w w := Below.refl _ _
 refine rk_seq ?_
 refine rk_reg ?_
 refine lw_e (oe_box (v := .agg #[.int .u64 (wv3 x), .int .u64 (wv2 x), .int .u64 (wv1 x), .int .u64 (wv0 x), .int .u64 (wv3 y), .int .u64 (wv2 y), .int .u64 (wv1 y), .int .u64 (wv0 y), .int .u64 (wv3 u), .int .u64 (wv2 u), .int .u64 (wv1 u), .int .u64 (wv0 u)]) (cs := #[.int .u64 (wv3 x), .int .u64 (wv2 x), .int .u64 (wv1 x), .int .u64 (wv0 x), .int .u64 (wv3 y), .int .u64 (wv2 y), .int .u64 (wv1 y), .int .u64 (wv0 y), .int .u64 (wv3 u), .int .u64 (wv2 u), .int .u64 (wv1 u), .int .u64 (wv0 u)]) (T rfl rfl) rfl ?_)
 intro b1 w2 n3
 have N4 : w.heap.size ≤ b1 := n3.eq ▸ E0.size
 have E5 := below_ext E0 E0.size n3.ext
 refine lw_v (.bool false) (dv_assign C) ?_
 refine lw_nil ?_
 refine rk_seq ?_
 refine rk_reg ?_
 refine lw_v (.agg #[.int .u64 (wv3 x), .int .u64 (wv2 x), .int .u64 (wv1 x), .int .u64 (wv0 x), .int .u64 (wv3 y), .int .u64 (wv2 y), .int .u64 (wv1 y), .int .u64 (wv0 y), .int .u64 (wv3 u), .int .u64 (wv2 u), .int .u64 (wv1 u), .int .u64 (wv0 u)]) (dv_loads (l := [.int .u64 (wv3 x), .int .u64 (wv2 x), .int .u64 (wv1 x), .int .u64 (wv0 x), .int .u64 (wv3 y), .int .u64 (wv2 y), .int .u64 (wv1 y), .int .u64 (wv0 y), .int .u64 (wv3 u), .int .u64 (wv2 u), .int .u64 (wv1 u), .int .u64 (wv0 u)]) agt37 sz37 (T rfl rfl) n3.blk rfl) ?_
 refine lw_e (oe_callf (vs := [.agg #[.int .u64 (wv3 x), .int .u64 (wv2 x), .int .u64 (wv1 x), .int .u64 (wv0 x), .int .u64 (wv3 y), .int .u64 (wv2 y), .int .u64 (wv1 y), .int .u64 (wv0 y), .int .u64 (wv3 u), .int .u64 (wv2 u), .int .u64 (wv1 u), .int .u64 (wv0 u)]]) co90 (ar1 (T rfl rfl)) (spot_ok fx_ fy_ fu_  ) ?_)
 rintro _ w21 ⟨nr6, A7, n8, c9, nr10, A11, n12, c13, nr14, A15, n16, c17, rfl, e22, h18, h19, h20⟩
 have E23 := below_ext E5 E5.size e22
 have lh18 := Num.len (by decide) h18
 have lh19 := Num.len (by decide) h19
 have lh20 := Num.len (by decide) h20
 refine lw_e (oe_alloc ze122 ?_)
 intro b24 w25 n26
 have N27 : w.heap.size ≤ b24 := n26.eq ▸ E23.size
 have H28 := (e22.blk n3.blk)
 have : b1 < b24 := n26.eq ▸ lt_of_blk H28
 have E29 := below_ext E23 E23.size n26.ext
 refine lw_e (oe_store (v := .agg #[.bool nr6, .slice A7 n8 c9, .bool nr10, .slice A11 n12 c13, .bool nr14, .slice A15 n16 c17]) (vs := [.bool nr6, .slice A7 n8 c9, .bool nr10, .slice A11 n12 c13, .bool nr14, .slice A15 n16 c17]) (l := [.bool nr6, .slice A7 n8 c9, .bool nr10, .slice A11 n12 c13, .bool nr14, .slice A15 n16 c17]) (T rfl rfl) (T rfl rfl) sz122 rfl rfl rfl n26.blk rfl ?_)
 intro w30 s31 H32
 have E33 := below_st E29 N27 s31
 refine lw_nil ?_
 refine rk_seq ?_
 refine rk_any (fun w => w.heap[b24]? = some (.cells #[.bool nr6, .slice A7 n8 c9, .bool nr10, .slice A11 n12 c13, .bool nr14, .slice A15 n16 c17] 122)) [30] mo ?_
 intro w34 d35
 have E36 := below_ext E33 E33.size d35.ext
 have H37 := (d35.ext.blk H32)
 refine aw_pure 0 (.pointer (some ⟨b24, 4, none⟩)) rfl (by kernel_rfl) .none H37 (fun _ => dv_fieldAddr (a := ⟨b24, 0, none⟩) (a' := ⟨b24, 4, none⟩) fo122_2 (T rfl rfl) rfl) ?_
 refine aw_load 1 (.agg #[.bool nr14, .slice A15 n16 c17]) rfl (by kernel_rfl) .none H37 (fun _ s => dv_loads (l := [.bool nr14, .slice A15 n16 c17]) agt120 sz120 (T rfl rfl) s rfl) ?_
 have h38 := (((h20.ext n26.ext).st s31 n26.blk (by decide)).ext d35.ext)
 refine aw_one 2 rfl (by kernel_rfl) .none (oe_callf (vs := [.agg #[.bool nr14, .slice A15 n16 c17]]) co132 (ar1 (T rfl rfl)) (nsign_ok h38 ) ?_)
 rintro _ w39 ⟨rfl, e40⟩
 have E41 := below_ext E36 E36.size e40
 have H42 := (e40.blk H37)
 refine ⟨.inr H42, ?_⟩
 refine aw_pure 3 (.bool (decide (0 < (sgnI u)))) rfl (by kernel_rfl) .none H42 (fun _ => dv_gtr (a := sgnI u) (b := 0) (T rfl rfl) C) ?_
 refine aw_pure 4 (.bool (decide (0 < (sgnI u)))) rfl (by kernel_rfl) .none H42 (fun _ => dv_move (T rfl rfl)) ?_
 by_cases hb43 : 0 < (sgnI u)
 · refine aw_pure 5 (.pointer (some ⟨b24, 0, none⟩)) rfl (by kernel_rfl) (.yes (d := 10) rfl rfl (congrArg Value.bool (decide_eq_true hb43))) H42 (fun _ => dv_fieldAddr (a := ⟨b24, 0, none⟩) (a' := ⟨b24, 0, none⟩) fo122_0 (T rfl rfl) rfl) ?_
   refine aw_load 6 (.agg #[.bool nr6, .slice A7 n8 c9]) rfl (by kernel_rfl) (.yes (d := 10) rfl rfl (congrArg Value.bool (decide_eq_true hb43))) H42 (fun _ s => dv_loads (l := [.bool nr6, .slice A7 n8 c9]) agt120 sz120 (T rfl rfl) s rfl) ?_
   refine aw_pure 8 (.pointer (some ⟨b24, 2, none⟩)) rfl (by kernel_rfl) (.yes (d := 10) rfl rfl (congrArg Value.bool (decide_eq_true hb43))) H42 (fun _ => dv_fieldAddr (a := ⟨b24, 0, none⟩) (a' := ⟨b24, 2, none⟩) fo122_1 (T rfl rfl) rfl) ?_
   refine aw_load 9 (.agg #[.bool nr10, .slice A11 n12 c13]) rfl (by kernel_rfl) (.yes (d := 10) rfl rfl (congrArg Value.bool (decide_eq_true hb43))) H42 (fun _ s => dv_loads (l := [.bool nr10, .slice A11 n12 c13]) agt120 sz120 (T rfl rfl) s rfl) ?_
   refine aw_pure 11 (.pointer (some ⟨b24, 4, none⟩)) rfl (by kernel_rfl) (.yes (d := 10) rfl rfl (congrArg Value.bool (decide_eq_true hb43))) H42 (fun _ => dv_fieldAddr (a := ⟨b24, 0, none⟩) (a' := ⟨b24, 4, none⟩) fo122_2 (T rfl rfl) rfl) ?_
   refine aw_load 12 (.agg #[.bool nr14, .slice A15 n16 c17]) rfl (by kernel_rfl) (.yes (d := 10) rfl rfl (congrArg Value.bool (decide_eq_true hb43))) H42 (fun _ s => dv_loads (l := [.bool nr14, .slice A15 n16 c17]) agt120 sz120 (T rfl rfl) s rfl) ?_
   have h44 := ((((h18.ext n26.ext).st s31 n26.blk (by decide)).ext d35.ext).ext e40)
   refine aw_one 7 rfl (by kernel_rfl) (.yes (d := 10) rfl rfl (congrArg Value.bool (decide_eq_true hb43))) (oe_callf (vs := [.agg #[.bool nr6, .slice A7 n8 c9]]) co133 (ar1 (T rfl rfl)) (nsize_num h44 (by first | omega | (simp; done) | (simp; omega))) ?_)
   rintro _ w45 ⟨rfl, e46⟩
   have E47 := below_ext E41 E41.size e46
   have H48 := (e46.blk H42)
   refine ⟨.inr H48, ?_⟩
   have h49 := (((((h19.ext n26.ext).st s31 n26.blk (by decide)).ext d35.ext).ext e40).ext e46)
   refine aw_one 10 rfl (by kernel_rfl) (.yes (d := 10) rfl rfl (congrArg Value.bool (decide_eq_true hb43))) (oe_callf (vs := [.agg #[.bool nr10, .slice A11 n12 c13]]) co133 (ar1 (T rfl rfl)) (nsize_num h49 (by first | omega | (simp; done) | (simp; omega))) ?_)
   rintro _ w50 ⟨rfl, e51⟩
   have E52 := below_ext E47 E47.size e51
   have H53 := (e51.blk H48)
   refine ⟨.inr H53, ?_⟩
   have h54 := (((h38.ext e40).ext e46).ext e51)
   refine aw_one 13 rfl (by kernel_rfl) (.yes (d := 10) rfl rfl (congrArg Value.bool (decide_eq_true hb43))) (oe_callf (vs := [.agg #[.bool nr14, .slice A15 n16 c17]]) co133 (ar1 (T rfl rfl)) (nsize_num h54 (by first | omega | (simp; done) | (simp; omega))) ?_)
   rintro _ w55 ⟨rfl, e56⟩
   have E57 := below_ext E52 E52.size e56
   have H58 := (e56.blk H53)
   refine ⟨.inr H58, ?_⟩
   refine aw_pure 14 (.int .i64 (mx (mx ((nbits (x).natAbs : Int)) ((nbits (y).natAbs : Int))) ((nbits (u).natAbs : Int)))) rfl (by kernel_rfl) (.yes (d := 10) rfl rfl (congrArg Value.bool (decide_eq_true hb43))) H58 (fun _ => dv_max3 (a := (nbits (x).natAbs : Int)) (b := (nbits (y).natAbs : Int)) (c := (nbits (u).natAbs : Int)) (T rfl rfl) (T rfl rfl) (T rfl rfl)) ?_
   refine aw_pure 15 (.bool (decide ((mx (mx ((nbits (x).natAbs : Int)) ((nbits (y).natAbs : Int))) ((nbits (u).natAbs : Int))) ≤ 80))) rfl (by kernel_rfl) (.yes (d := 10) rfl rfl (congrArg Value.bool (decide_eq_true hb43))) H58 (fun _ => dv_leq (a := mx (mx ((nbits (x).natAbs : Int)) ((nbits (y).natAbs : Int))) ((nbits (u).natAbs : Int))) (b := 80) (T rfl rfl) C) ?_
   refine aw_pure 16 (.bool (decide ((mx (mx ((nbits (x).natAbs : Int)) ((nbits (y).natAbs : Int))) ((nbits (u).natAbs : Int))) ≤ 80))) rfl (by kernel_rfl) .none H58 (fun _ => dv_pick_t (T rfl (congrArg Value.bool (decide_eq_true hb43))) (T rfl rfl)) ?_
   refine aw_pure 17 (.bool (decide ((mx (mx ((nbits (x).natAbs : Int)) ((nbits (y).natAbs : Int))) ((nbits (u).natAbs : Int))) ≤ 80))) rfl (by kernel_rfl) .none H58 (fun _ => dv_move (T rfl rfl)) ?_
   by_cases hb59 : (mx (mx ((nbits (x).natAbs : Int)) ((nbits (y).natAbs : Int))) ((nbits (u).natAbs : Int))) ≤ 80
   · refine aw_pure 18 (.pointer (some ⟨b24, 0, none⟩)) rfl (by kernel_rfl) (.yes (d := 23) rfl rfl (congrArg Value.bool (decide_eq_true hb59))) H58 (fun _ => dv_fieldAddr (a := ⟨b24, 0, none⟩) (a' := ⟨b24, 0, none⟩) fo122_0 (T rfl rfl) rfl) ?_
     refine aw_load 19 (.agg #[.bool nr6, .slice A7 n8 c9]) rfl (by kernel_rfl) (.yes (d := 23) rfl rfl (congrArg Value.bool (decide_eq_true hb59))) H58 (fun _ s => dv_loads (l := [.bool nr6, .slice A7 n8 c9]) agt120 sz120 (T rfl rfl) s rfl) ?_
     refine aw_pure 20 (.pointer (some ⟨b24, 2, none⟩)) rfl (by kernel_rfl) (.yes (d := 23) rfl rfl (congrArg Value.bool (decide_eq_true hb59))) H58 (fun _ => dv_fieldAddr (a := ⟨b24, 0, none⟩) (a' := ⟨b24, 2, none⟩) fo122_1 (T rfl rfl) rfl) ?_
     refine aw_load 21 (.agg #[.bool nr10, .slice A11 n12 c13]) rfl (by kernel_rfl) (.yes (d := 23) rfl rfl (congrArg Value.bool (decide_eq_true hb59))) H58 (fun _ s => dv_loads (l := [.bool nr10, .slice A11 n12 c13]) agt120 sz120 (T rfl rfl) s rfl) ?_
     refine aw_pure 22 (.pointer (some ⟨b24, 4, none⟩)) rfl (by kernel_rfl) (.yes (d := 23) rfl rfl (congrArg Value.bool (decide_eq_true hb59))) H58 (fun _ => dv_fieldAddr (a := ⟨b24, 0, none⟩) (a' := ⟨b24, 4, none⟩) fo122_2 (T rfl rfl) rfl) ?_
     refine aw_load 23 (.agg #[.bool nr14, .slice A15 n16 c17]) rfl (by kernel_rfl) (.yes (d := 23) rfl rfl (congrArg Value.bool (decide_eq_true hb59))) H58 (fun _ s => dv_loads (l := [.bool nr14, .slice A15 n16 c17]) agt120 sz120 (T rfl rfl) s rfl) ?_
     refine aw_one 24 rfl (by kernel_rfl) (.yes (d := 23) rfl rfl (congrArg Value.bool (decide_eq_true hb59))) (oe_buildSlice (pv := [(0, .agg #[.bool nr6, .slice A7 n8 c9]), (1, .agg #[.bool nr10, .slice A11 n12 c13]), (2, .agg #[.bool nr14, .slice A15 n16 c17])]) (init := [.bool false, .slice none 0 0, .bool false, .slice none 0 0, .bool false, .slice none 0 0]) (l := [.bool nr6, .slice A7 n8 c9, .bool nr10, .slice A11 n12 c13, .bool nr14, .slice A15 n16 c17]) us197 sz120 rfl rfl zc120 (by kernel_rfl) ⟨rfl, (T rfl rfl), ⟨rfl, (T rfl rfl), ⟨rfl, (T rfl rfl), trivial⟩⟩⟩ rfl ?_)
     intro b60 w61 n62
     have N63 : w.heap.size ≤ b60 := n62.eq ▸ E57.size
     have : b24 < b60 := n62.eq ▸ lt_of_blk H58
     have E64 := below_ext E57 E57.size n62.ext
     have H65 := (n62.ext.blk H58)
     refine ⟨.inr H65, ?_⟩
     have h66 := ((((h44.ext e46).ext e51).ext e56).ext n62.ext)
     have h67 := (((h49.ext e51).ext e56).ext n62.ext)
     have h68 := ((h54.ext e56).ext n62.ext)
     refine aw_one 25 rfl (by kernel_rfl) (.yes (d := 23) rfl rfl (congrArg Value.bool (decide_eq_true hb59))) (oe_callf (vs := [.slice (some ⟨b60, 0, none⟩) 3 3]) co134 (ar1 (T rfl rfl)) (gcd3_ok h66 h67 h68 (by first | decide | omega) (by first | decide | omega) (by first | decide | omega) n62.blk) ?_)
     rintro _ w74 ⟨nr69, A70, n71, c72, rfl, e75, h73⟩
     have E76 := below_ext E64 E64.size e75
     have lh73 := Num.len (by decide) h73
     have H77 := (e75.blk H65)
     refine ⟨.inr H77, ?_⟩
     refine aw_one 26 rfl (by kernel_rfl) (.yes (d := 23) rfl rfl (congrArg Value.bool (decide_eq_true hb59))) (oe_callf (vs := [.int .i64 1]) co92 (ar1 C) (whole_ok  (by omega)) ?_)
     rintro _ w83 ⟨nr78, A79, n80, c81, rfl, e84, h82⟩
     have E85 := below_ext E76 E76.size e84
     have lh82 := Num.len (by decide) h82
     have H86 := (e84.blk H77)
     refine ⟨.inr H86, ?_⟩
     have h87 := (h73.ext e84)
     refine aw_one 27 rfl (by kernel_rfl) (.yes (d := 23) rfl rfl (congrArg Value.bool (decide_eq_true hb59))) (oe_callf (vs := [.agg #[.bool nr69, .slice A70 n71 c72], .agg #[.bool nr78, .slice A79 n80 c81]]) co91 (ar2 (T rfl rfl) (T rfl rfl)) (ncmp_ok h87 h82 (by first | decide | omega) (by first | decide | omega)) ?_)
     rintro _ w88 ⟨rfl, e89⟩
     have E90 := below_ext E85 E85.size e89
     have H91 := (e89.blk H86)
     refine ⟨.inr H91, ?_⟩
     refine aw_pure 28 (.bool (decide ((sgnI ((gI3 x y u) - 1)) = 0))) rfl (by kernel_rfl) (.yes (d := 23) rfl rfl (congrArg Value.bool (decide_eq_true hb59))) H91 (fun _ => dv_eql (a := sgnI ((gI3 x y u) - 1)) (b := 0) (T rfl rfl) C) ?_
     refine aw_pure 29 (.bool (decide ((sgnI ((gI3 x y u) - 1)) = 0))) rfl (by kernel_rfl) .none H91 (fun _ => dv_pick_t (T rfl (congrArg Value.bool (decide_eq_true hb59))) (T rfl rfl)) ?_
     refine aw_last 30 (.bool (decide ((sgnI ((gI3 x y u) - 1)) = 0))) rfl (by kernel_rfl) .none (fun _ => dv_assign (T rfl rfl)) ?_
     refine aw_done (by kernel_rfl) ?_
     refine rk_ret Try.func75 (v := .bool (decide ((sgnI ((gI3 x y u) - 1)) = 0))) (res1 Try.results75 (rv_tmp rfl rfl)) ⟨_, rfl, ?_⟩
     have h1 : sm3 x y u := by first | assumption | exact sm3_iff.2 (mx3.1 ‹_›)
     have h2 : 0 < u := sgnI_gt.1 (by assumption)
     have h3 := @sgnI_zero (gI3 x y u - 1)
     exact ⟨(vb ⟨fun hh => ⟨h2, h1, by have := h3.1 hh; omega⟩, fun hh => h3.2 (by have := hh.2.2; omega)⟩), E90⟩
   · refine aw_no 18 rfl (by kernel_rfl) (d := 23) rfl rfl (congrArg Value.bool (decide_eq_false hb59)) H58 ?_
     refine aw_no 19 rfl (by kernel_rfl) (d := 23) rfl rfl (congrArg Value.bool (decide_eq_false hb59)) H58 ?_
     refine aw_no 20 rfl (by kernel_rfl) (d := 23) rfl rfl (congrArg Value.bool (decide_eq_false hb59)) H58 ?_
     refine aw_no 21 rfl (by kernel_rfl) (d := 23) rfl rfl (congrArg Value.bool (decide_eq_false hb59)) H58 ?_
     refine aw_no 22 rfl (by kernel_rfl) (d := 23) rfl rfl (congrArg Value.bool (decide_eq_false hb59)) H58 ?_
     refine aw_no 23 rfl (by kernel_rfl) (d := 23) rfl rfl (congrArg Value.bool (decide_eq_false hb59)) H58 ?_
     refine aw_no 24 rfl (by kernel_rfl) (d := 23) rfl rfl (congrArg Value.bool (decide_eq_false hb59)) H58 ?_
     refine aw_no 25 rfl (by kernel_rfl) (d := 23) rfl rfl (congrArg Value.bool (decide_eq_false hb59)) H58 ?_
     refine aw_no 26 rfl (by kernel_rfl) (d := 23) rfl rfl (congrArg Value.bool (decide_eq_false hb59)) H58 ?_
     refine aw_no 27 rfl (by kernel_rfl) (d := 23) rfl rfl (congrArg Value.bool (decide_eq_false hb59)) H58 ?_
     refine aw_no 28 rfl (by kernel_rfl) (d := 23) rfl rfl (congrArg Value.bool (decide_eq_false hb59)) H58 ?_
     refine aw_pure 29 (.bool false) rfl (by kernel_rfl) .none H58 (fun _ => dv_pick_f (T rfl (congrArg Value.bool (decide_eq_false hb59))) C) ?_
     refine aw_last 30 (.bool false) rfl (by kernel_rfl) .none (fun _ => dv_assign (T rfl rfl)) ?_
     refine aw_done (by kernel_rfl) ?_
     refine rk_ret Try.func75 (v := .bool false) (res1 Try.results75 (rv_tmp rfl rfl)) ⟨_, rfl, ?_⟩
     exact ⟨(vf (by intro hh; have h1 := sgnI_gt.2 hh.1; have h2 := hh.2.1; first | (exact absurd h2 (by assumption)) | (exact absurd (mx3.2 (sm3_iff.1 h2)) (by assumption)) | contradiction | omega)), E57⟩
 · refine aw_no 5 rfl (by kernel_rfl) (d := 10) rfl rfl (congrArg Value.bool (decide_eq_false hb43)) H42 ?_
   refine aw_no 6 rfl (by kernel_rfl) (d := 10) rfl rfl (congrArg Value.bool (decide_eq_false hb43)) H42 ?_
   refine aw_no 7 rfl (by kernel_rfl) (d := 10) rfl rfl (congrArg Value.bool (decide_eq_false hb43)) H42 ?_
   refine aw_no 8 rfl (by kernel_rfl) (d := 10) rfl rfl (congrArg Value.bool (decide_eq_false hb43)) H42 ?_
   refine aw_no 9 rfl (by kernel_rfl) (d := 10) rfl rfl (congrArg Value.bool (decide_eq_false hb43)) H42 ?_
   refine aw_no 10 rfl (by kernel_rfl) (d := 10) rfl rfl (congrArg Value.bool (decide_eq_false hb43)) H42 ?_
   refine aw_no 11 rfl (by kernel_rfl) (d := 10) rfl rfl (congrArg Value.bool (decide_eq_false hb43)) H42 ?_
   refine aw_no 12 rfl (by kernel_rfl) (d := 10) rfl rfl (congrArg Value.bool (decide_eq_false hb43)) H42 ?_
   refine aw_no 13 rfl (by kernel_rfl) (d := 10) rfl rfl (congrArg Value.bool (decide_eq_false hb43)) H42 ?_
   refine aw_no 14 rfl (by kernel_rfl) (d := 10) rfl rfl (congrArg Value.bool (decide_eq_false hb43)) H42 ?_
   refine aw_no 15 rfl (by kernel_rfl) (d := 10) rfl rfl (congrArg Value.bool (decide_eq_false hb43)) H42 ?_
   refine aw_pure 16 (.bool false) rfl (by kernel_rfl) .none H42 (fun _ => dv_pick_f (T rfl (congrArg Value.bool (decide_eq_false hb43))) C) ?_
   refine aw_pure 17 (.bool false) rfl (by kernel_rfl) .none H42 (fun _ => dv_move (T rfl rfl)) ?_
   refine aw_no 18 rfl (by kernel_rfl) (d := 23) rfl rfl (rfl) H42 ?_
   refine aw_no 19 rfl (by kernel_rfl) (d := 23) rfl rfl (rfl) H42 ?_
   refine aw_no 20 rfl (by kernel_rfl) (d := 23) rfl rfl (rfl) H42 ?_
   refine aw_no 21 rfl (by kernel_rfl) (d := 23) rfl rfl (rfl) H42 ?_
   refine aw_no 22 rfl (by kernel_rfl) (d := 23) rfl rfl (rfl) H42 ?_
   refine aw_no 23 rfl (by kernel_rfl) (d := 23) rfl rfl (rfl) H42 ?_
   refine aw_no 24 rfl (by kernel_rfl) (d := 23) rfl rfl (rfl) H42 ?_
   refine aw_no 25 rfl (by kernel_rfl) (d := 23) rfl rfl (rfl) H42 ?_
   refine aw_no 26 rfl (by kernel_rfl) (d := 23) rfl rfl (rfl) H42 ?_
   refine aw_no 27 rfl (by kernel_rfl) (d := 23) rfl rfl (rfl) H42 ?_
   refine aw_no 28 rfl (by kernel_rfl) (d := 23) rfl rfl (rfl) H42 ?_
   refine aw_pure 29 (.bool false) rfl (by kernel_rfl) .none H42 (fun _ => dv_pick_f (T rfl rfl) C) ?_
   refine aw_last 30 (.bool false) rfl (by kernel_rfl) .none (fun _ => dv_assign (T rfl rfl)) ?_
   refine aw_done (by kernel_rfl) ?_
   refine rk_ret Try.func75 (v := .bool false) (res1 Try.results75 (rv_tmp rfl rfl)) ⟨_, rfl, ?_⟩
   exact ⟨(vf (by intro hh; have h1 := sgnI_gt.2 hh.1; have h2 := hh.2.1; first | (exact absurd h2 (by assumption)) | (exact absurd (mx3.2 (sm3_iff.1 h2)) (by assumption)) | contradiction | omega)), E41⟩
set_option maxHeartbeats 1000000 in
theorem l3CmpX_ok {w : World}  {na : Bool} {Aa : Option Addr} {la ca : Nat} {x : Int} {sx : Nat} (ha : Num 32 183 .u32 w na Aa la ca x sx) {nb : Bool} {Ab : Option Addr} {lb cb : Nat} {y : Int} {sy : Nat} (hb : Num 32 183 .u32 w nb Ab lb cb y sy) {nm : Bool} {Am : Option Addr} {lm cm : Nat} {u : Int} {su : Nat} (hm : Num 32 183 .u32 w nm Am lm cm u su) {ne : Bool} {Ae : Option Addr} {le ce : Nat} {p : Int} {sp : Nat} (he : Num 32 183 .u32 w ne Ae le ce p sp) {nf : Bool} {Af : Option Addr} {lf cf : Nat} {q : Int} {sq : Nat} (hf : Num 32 183 .u32 w nf Af lf cf q sq) {ng : Bool} {Ag : Option Addr} {lg cg : Nat} {r : Int} {sr : Nat} (hg : Num 32 183 .u32 w ng Ag lg cg r sr) (hbsx : sx ≤ 100000) (hbsy : sy ≤ 100000) (hbsu : su ≤ 100000) (hbsp : sp ≤ 100000) (hbsq : sq ≤ 100000) (hbsr : sr ≤ 100000)  : Ct Try.prog 88 [.agg #[.bool na, .slice Aa la ca, .bool nb, .slice Ab lb cb, .bool nm, .slice Am lm cm], .agg #[.bool ne, .slice Ae le ce, .bool nf, .slice Af lf cf, .bool ng, .slice Ag lg cg]] w fun v w1 => v = .int .i64 (sgnI (x * r - p * u)) ∧ Ext w w1 := by
 refine ct_run (n := 16) Try.func88 rfl Try.ntmps88 rfl ?_
 have E0 : Below w.heap.size w w := Below.refl _ _
 have lha := Num.len (by decide) ha
 have lhb := Num.len (by decide) hb
 have lhm := Num.len (by decide) hm
 have lhe := Num.len (by decide) he
 have lhf := Num.len (by decide) hf
 have lhg := Num.len (by decide) hg
 refine rk_seq ?_
 refine rk_reg ?_
 refine lw_e (oe_box (v := .agg #[.bool na, .slice Aa la ca, .bool nb, .slice Ab lb cb, .bool nm, .slice Am lm cm]) (cs := #[.bool na, .slice Aa la ca, .bool nb, .slice Ab lb cb, .bool nm, .slice Am lm cm]) (T rfl rfl) rfl ?_)
 intro b1 w2 n3
 have N4 : w.heap.size ≤ b1 := n3.eq ▸ E0.size
 have E5 := below_ext E0 E0.size n3.ext
 refine lw_e (oe_box (v := .agg #[.bool ne, .slice Ae le ce, .bool nf, .slice Af lf cf, .bool ng, .slice Ag lg cg]) (cs := #[.bool ne, .slice Ae le ce, .bool nf, .slice Af lf cf, .bool ng, .slice Ag lg cg]) (T rfl rfl) rfl ?_)
 intro b6 w7 n8
 have N9 : w.heap.size ≤ b6 := n8.eq ▸ E5.size
 have : b1 < b6 := n8.eq ▸ lt_of_blk n3.blk
 have E10 := below_ext E5 E5.size n8.ext
 refine lw_v (.int .i64 0) (dv_assign C) ?_
 refine lw_nil ?_
 refine rk_seq ?_
 refine rk_any (fun w => w.heap[b1]? = some (.cells #[.bool na, .slice Aa la ca, .bool nb, .slice Ab lb cb, .bool nm, .slice Am lm cm] 102) ∧ w.heap[b6]? = some (.cells #[.bool ne, .slice Ae le ce, .bool nf, .slice Af lf cf, .bool ng, .slice Ag lg cg] 102)) [11] mo ?_
 intro w11 d12
 have E13 := below_ext E10 E10.size d12.ext
 have H14 := (d12.ext.blk (n8.ext.blk n3.blk))
 have H15 := (d12.ext.blk n8.blk)
 refine aw_pure 0 (.pointer (some ⟨b1, 0, none⟩)) rfl (by kernel_rfl) .none ⟨H14, H15⟩ (fun _ => dv_fieldAddr (a := ⟨b1, 0, none⟩) (a' := ⟨b1, 0, none⟩) fo102_0 (T rfl rfl) rfl) ?_
 refine aw_load 1 (.agg #[.bool na, .slice Aa la ca]) rfl (by kernel_rfl) .none ⟨H14, H15⟩ (fun _ s => dv_loads (l := [.bool na, .slice Aa la ca]) agt100 sz100 (T rfl rfl) s.1 rfl) ?_
 refine aw_pure 2 (.pointer (some ⟨b6, 4, none⟩)) rfl (by kernel_rfl) .none ⟨H14, H15⟩ (fun _ => dv_fieldAddr (a := ⟨b6, 0, none⟩) (a' := ⟨b6, 4, none⟩) fo102_2 (T rfl rfl) rfl) ?_
 refine aw_load 3 (.agg #[.bool ng, .slice Ag lg cg]) rfl (by kernel_rfl) .none ⟨H14, H15⟩ (fun _ s => dv_loads (l := [.bool ng, .slice Ag lg cg]) agt100 sz100 (T rfl rfl) s.2 rfl) ?_
 refine aw_pure 5 (.pointer (some ⟨b6, 0, none⟩)) rfl (by kernel_rfl) .none ⟨H14, H15⟩ (fun _ => dv_fieldAddr (a := ⟨b6, 0, none⟩) (a' := ⟨b6, 0, none⟩) fo102_0 (T rfl rfl) rfl) ?_
 refine aw_load 6 (.agg #[.bool ne, .slice Ae le ce]) rfl (by kernel_rfl) .none ⟨H14, H15⟩ (fun _ s => dv_loads (l := [.bool ne, .slice Ae le ce]) agt100 sz100 (T rfl rfl) s.2 rfl) ?_
 refine aw_pure 7 (.pointer (some ⟨b1, 4, none⟩)) rfl (by kernel_rfl) .none ⟨H14, H15⟩ (fun _ => dv_fieldAddr (a := ⟨b1, 0, none⟩) (a' := ⟨b1, 4, none⟩) fo102_2 (T rfl rfl) rfl) ?_
 refine aw_load 8 (.agg #[.bool nm, .slice Am lm cm]) rfl (by kernel_rfl) .none ⟨H14, H15⟩ (fun _ s => dv_loads (l := [.bool nm, .slice Am lm cm]) agt100 sz100 (T rfl rfl) s.1 rfl) ?_
 have h16 := (((ha.ext n3.ext).ext n8.ext).ext d12.ext)
 have h17 := (((hg.ext n3.ext).ext n8.ext).ext d12.ext)
 refine aw_one 4 rfl (by kernel_rfl) .none (oe_callf (vs := [.agg #[.bool na, .slice Aa la ca], .agg #[.bool ng, .slice Ag lg cg]]) co99 (ar2 (T rfl rfl) (T rfl rfl)) (l1Mul_ok h16 h17 (by first | decide | omega) (by first | decide | omega)) ?_)
 rintro _ w23 ⟨nr18, A19, n20, c21, rfl, e24, h22⟩
 have E25 := below_ext E13 E13.size e24
 have lh22 := Num.len (by decide) h22
 have H26 := (e24.blk H14)
 have H27 := (e24.blk H15)
 refine ⟨.inr ⟨H26, H27⟩, ?_⟩
 have h28 := ((((he.ext n3.ext).ext n8.ext).ext d12.ext).ext e24)
 have h29 := ((((hm.ext n3.ext).ext n8.ext).ext d12.ext).ext e24)
 refine aw_one 9 rfl (by kernel_rfl) .none (oe_callf (vs := [.agg #[.bool ne, .slice Ae le ce], .agg #[.bool nm, .slice Am lm cm]]) co99 (ar2 (T rfl rfl) (T rfl rfl)) (l1Mul_ok h28 h29 (by first | decide | omega) (by first | decide | omega)) ?_)
 rintro _ w35 ⟨nr30, A31, n32, c33, rfl, e36, h34⟩
 have E37 := below_ext E25 E25.size e36
 have lh34 := Num.len (by decide) h34
 have H38 := (e36.blk H26)
 have H39 := (e36.blk H27)
 refine ⟨.inr ⟨H38, H39⟩, ?_⟩
 have h40 := (h22.ext e36)
 refine aw_one 10 rfl (by kernel_rfl) .none (oe_callf (vs := [.agg #[.bool nr18, .slice A19 n20 c21], .agg #[.bool nr30, .slice A31 n32 c33]]) co128 (ar2 (T rfl rfl) (T rfl rfl)) (l1Cmp_ok h40 h34 (by first | decide | omega) (by first | decide | omega)) ?_)
 rintro _ w41 ⟨rfl, e42⟩
 have E43 := below_ext E37 E37.size e42
 have H44 := (e42.blk H38)
 have H45 := (e42.blk H39)
 refine ⟨.inr ⟨H44, H45⟩, ?_⟩
 refine aw_last 11 (.int .i64 (sgnI ((x * r) - (p * u)))) rfl (by kernel_rfl) .none (fun _ => dv_assign (T rfl rfl)) ?_
 refine aw_done (by kernel_rfl) ?_
 refine rk_ret Try.func88 (v := .int .i64 (sgnI ((x * r) - (p * u)))) (res1 Try.results88 (rv_tmp rfl rfl)) ⟨_, rfl, ?_⟩
 exact ⟨(vi (by rfl)), E43⟩
set_option maxHeartbeats 1000000 in
theorem l3CmpY_ok {w : World}  {na : Bool} {Aa : Option Addr} {la ca : Nat} {x : Int} {sx : Nat} (ha : Num 32 183 .u32 w na Aa la ca x sx) {nb : Bool} {Ab : Option Addr} {lb cb : Nat} {y : Int} {sy : Nat} (hb : Num 32 183 .u32 w nb Ab lb cb y sy) {nm : Bool} {Am : Option Addr} {lm cm : Nat} {u : Int} {su : Nat} (hm : Num 32 183 .u32 w nm Am lm cm u su) {ne : Bool} {Ae : Option Addr} {le ce : Nat} {p : Int} {sp : Nat} (he : Num 32 183 .u32 w ne Ae le ce p sp) {nf : Bool} {Af : Option Addr} {lf cf : Nat} {q : Int} {sq : Nat} (hf : Num 32 183 .u32 w nf Af lf cf q sq) {ng : Bool} {Ag : Option Addr} {lg cg : Nat} {r : Int} {sr : Nat} (hg : Num 32 183 .u32 w ng Ag lg cg r sr) (hbsx : sx ≤ 100000) (hbsy : sy ≤ 100000) (hbsu : su ≤ 100000) (hbsp : sp ≤ 100000) (hbsq : sq ≤ 100000) (hbsr : sr ≤ 100000)  : Ct Try.prog 89 [.agg #[.bool na, .slice Aa la ca, .bool nb, .slice Ab lb cb, .bool nm, .slice Am lm cm], .agg #[.bool ne, .slice Ae le ce, .bool nf, .slice Af lf cf, .bool ng, .slice Ag lg cg]] w fun v w1 => v = .int .i64 (sgnI (y * r - q * u)) ∧ Ext w w1 := by
 refine ct_run (n := 16) Try.func89 rfl Try.ntmps89 rfl ?_
 have E0 : Below w.heap.size w w := Below.refl _ _
 have lha := Num.len (by decide) ha
 have lhb := Num.len (by decide) hb
 have lhm := Num.len (by decide) hm
 have lhe := Num.len (by decide) he
 have lhf := Num.len (by decide) hf
 have lhg := Num.len (by decide) hg
 refine rk_seq ?_
 refine rk_reg ?_
 refine lw_e (oe_box (v := .agg #[.bool na, .slice Aa la ca, .bool nb, .slice Ab lb cb, .bool nm, .slice Am lm cm]) (cs := #[.bool na, .slice Aa la ca, .bool nb, .slice Ab lb cb, .bool nm, .slice Am lm cm]) (T rfl rfl) rfl ?_)
 intro b1 w2 n3
 have N4 : w.heap.size ≤ b1 := n3.eq ▸ E0.size
 have E5 := below_ext E0 E0.size n3.ext
 refine lw_e (oe_box (v := .agg #[.bool ne, .slice Ae le ce, .bool nf, .slice Af lf cf, .bool ng, .slice Ag lg cg]) (cs := #[.bool ne, .slice Ae le ce, .bool nf, .slice Af lf cf, .bool ng, .slice Ag lg cg]) (T rfl rfl) rfl ?_)
 intro b6 w7 n8
 have N9 : w.heap.size ≤ b6 := n8.eq ▸ E5.size
 have : b1 < b6 := n8.eq ▸ lt_of_blk n3.blk
 have E10 := below_ext E5 E5.size n8.ext
 refine lw_v (.int .i64 0) (dv_assign C) ?_
 refine lw_nil ?_
 refine rk_seq ?_
 refine rk_any (fun w => w.heap[b1]? = some (.cells #[.bool na, .slice Aa la ca, .bool nb, .slice Ab lb cb, .bool nm, .slice Am lm cm] 102) ∧ w.heap[b6]? = some (.cells #[.bool ne, .slice Ae le ce, .bool nf, .slice Af lf cf, .bool ng, .slice Ag lg cg] 102)) [11] mo ?_
 intro w11 d12
 have E13 := below_ext E10 E10.size d12.ext
 have H14 := (d12.ext.blk (n8.ext.blk n3.blk))
 have H15 := (d12.ext.blk n8.blk)
 refine aw_pure 0 (.pointer (some ⟨b1, 2, none⟩)) rfl (by kernel_rfl) .none ⟨H14, H15⟩ (fun _ => dv_fieldAddr (a := ⟨b1, 0, none⟩) (a' := ⟨b1, 2, none⟩) fo102_1 (T rfl rfl) rfl) ?_
 refine aw_load 1 (.agg #[.bool nb, .slice Ab lb cb]) rfl (by kernel_rfl) .none ⟨H14, H15⟩ (fun _ s => dv_loads (l := [.bool nb, .slice Ab lb cb]) agt100 sz100 (T rfl rfl) s.1 rfl) ?_
 refine aw_pure 2 (.pointer (some ⟨b6, 4, none⟩)) rfl (by kernel_rfl) .none ⟨H14, H15⟩ (fun _ => dv_fieldAddr (a := ⟨b6, 0, none⟩) (a' := ⟨b6, 4, none⟩) fo102_2 (T rfl rfl) rfl) ?_
 refine aw_load 3 (.agg #[.bool ng, .slice Ag lg cg]) rfl (by kernel_rfl) .none ⟨H14, H15⟩ (fun _ s => dv_loads (l := [.bool ng, .slice Ag lg cg]) agt100 sz100 (T rfl rfl) s.2 rfl) ?_
 refine aw_pure 5 (.pointer (some ⟨b6, 2, none⟩)) rfl (by kernel_rfl) .none ⟨H14, H15⟩ (fun _ => dv_fieldAddr (a := ⟨b6, 0, none⟩) (a' := ⟨b6, 2, none⟩) fo102_1 (T rfl rfl) rfl) ?_
 refine aw_load 6 (.agg #[.bool nf, .slice Af lf cf]) rfl (by kernel_rfl) .none ⟨H14, H15⟩ (fun _ s => dv_loads (l := [.bool nf, .slice Af lf cf]) agt100 sz100 (T rfl rfl) s.2 rfl) ?_
 refine aw_pure 7 (.pointer (some ⟨b1, 4, none⟩)) rfl (by kernel_rfl) .none ⟨H14, H15⟩ (fun _ => dv_fieldAddr (a := ⟨b1, 0, none⟩) (a' := ⟨b1, 4, none⟩) fo102_2 (T rfl rfl) rfl) ?_
 refine aw_load 8 (.agg #[.bool nm, .slice Am lm cm]) rfl (by kernel_rfl) .none ⟨H14, H15⟩ (fun _ s => dv_loads (l := [.bool nm, .slice Am lm cm]) agt100 sz100 (T rfl rfl) s.1 rfl) ?_
 have h16 := (((hb.ext n3.ext).ext n8.ext).ext d12.ext)
 have h17 := (((hg.ext n3.ext).ext n8.ext).ext d12.ext)
 refine aw_one 4 rfl (by kernel_rfl) .none (oe_callf (vs := [.agg #[.bool nb, .slice Ab lb cb], .agg #[.bool ng, .slice Ag lg cg]]) co99 (ar2 (T rfl rfl) (T rfl rfl)) (l1Mul_ok h16 h17 (by first | decide | omega) (by first | decide | omega)) ?_)
 rintro _ w23 ⟨nr18, A19, n20, c21, rfl, e24, h22⟩
 have E25 := below_ext E13 E13.size e24
 have lh22 := Num.len (by decide) h22
 have H26 := (e24.blk H14)
 have H27 := (e24.blk H15)
 refine ⟨.inr ⟨H26, H27⟩, ?_⟩
 have h28 := ((((hf.ext n3.ext).ext n8.ext).ext d12.ext).ext e24)
 have h29 := ((((hm.ext n3.ext).ext n8.ext).ext d12.ext).ext e24)
 refine aw_one 9 rfl (by kernel_rfl) .none (oe_callf (vs := [.agg #[.bool nf, .slice Af lf cf], .agg #[.bool nm, .slice Am lm cm]]) co99 (ar2 (T rfl rfl) (T rfl rfl)) (l1Mul_ok h28 h29 (by first | decide | omega) (by first | decide | omega)) ?_)
 rintro _ w35 ⟨nr30, A31, n32, c33, rfl, e36, h34⟩
 have E37 := below_ext E25 E25.size e36
 have lh34 := Num.len (by decide) h34
 have H38 := (e36.blk H26)
 have H39 := (e36.blk H27)
 refine ⟨.inr ⟨H38, H39⟩, ?_⟩
 have h40 := (h22.ext e36)
 refine aw_one 10 rfl (by kernel_rfl) .none (oe_callf (vs := [.agg #[.bool nr18, .slice A19 n20 c21], .agg #[.bool nr30, .slice A31 n32 c33]]) co128 (ar2 (T rfl rfl) (T rfl rfl)) (l1Cmp_ok h40 h34 (by first | decide | omega) (by first | decide | omega)) ?_)
 rintro _ w41 ⟨rfl, e42⟩
 have E43 := below_ext E37 E37.size e42
 have H44 := (e42.blk H38)
 have H45 := (e42.blk H39)
 refine ⟨.inr ⟨H44, H45⟩, ?_⟩
 refine aw_last 11 (.int .i64 (sgnI ((y * r) - (q * u)))) rfl (by kernel_rfl) .none (fun _ => dv_assign (T rfl rfl)) ?_
 refine aw_done (by kernel_rfl) ?_
 refine rk_ret Try.func89 (v := .int .i64 (sgnI ((y * r) - (q * u)))) (res1 Try.results89 (rv_tmp rfl rfl)) ⟨_, rfl, ?_⟩
 exact ⟨(vi (by rfl)), E43⟩
set_option maxHeartbeats 1000000 in
theorem l3Cmp_ok {w : World}  {na : Bool} {Aa : Option Addr} {la ca : Nat} {x : Int} {sx : Nat} (ha : Num 32 183 .u32 w na Aa la ca x sx) {nb : Bool} {Ab : Option Addr} {lb cb : Nat} {y : Int} {sy : Nat} (hb : Num 32 183 .u32 w nb Ab lb cb y sy) {nm : Bool} {Am : Option Addr} {lm cm : Nat} {u : Int} {su : Nat} (hm : Num 32 183 .u32 w nm Am lm cm u su) {ne : Bool} {Ae : Option Addr} {le ce : Nat} {p : Int} {sp : Nat} (he : Num 32 183 .u32 w ne Ae le ce p sp) {nf : Bool} {Af : Option Addr} {lf cf : Nat} {q : Int} {sq : Nat} (hf : Num 32 183 .u32 w nf Af lf cf q sq) {ng : Bool} {Ag : Option Addr} {lg cg : Nat} {r : Int} {sr : Nat} (hg : Num 32 183 .u32 w ng Ag lg cg r sr) (hbsx : sx ≤ 100000) (hbsy : sy ≤ 100000) (hbsu : su ≤ 100000) (hbsp : sp ≤ 100000) (hbsq : sq ≤ 100000) (hbsr : sr ≤ 100000)  : Ct Try.prog 113 [.agg #[.bool na, .slice Aa la ca, .bool nb, .slice Ab lb cb, .bool nm, .slice Am lm cm], .agg #[.bool ne, .slice Ae le ce, .bool nf, .slice Af lf cf, .bool ng, .slice Ag lg cg]] w fun v w1 => v = .int .i64 (pc x y u p q r) ∧ Ext w w1 := by
 refine ct_run (n := 15) Try.func113 rfl Try.ntmps113 rfl ?_
 have E0 : Below w.heap.size w w := Below.refl _ _
 have lha := Num.len (by decide) ha
 have lhb := Num.len (by decide) hb
 have lhm := Num.len (by decide) hm
 have lhe := Num.len (by decide) he
 have lhf := Num.len (by decide) hf
 have lhg := Num.len (by decide) hg
 refine rk_seq ?_
 refine rk_reg ?_
 refine lw_e (oe_box (v := .agg #[.bool na, .slice Aa la ca, .bool nb, .slice Ab lb cb, .bool nm, .slice Am lm cm]) (cs := #[.bool na, .slice Aa la ca, .bool nb, .slice Ab lb cb, .bool nm, .slice Am lm cm]) (T rfl rfl) rfl ?_)
 intro b1 w2 n3
 have N4 : w.heap.size ≤ b1 := n3.eq ▸ E0.size
 have E5 := below_ext E0 E0.size n3.ext
 refine lw_e (oe_box (v := .agg #[.bool ne, .slice Ae le ce, .bool nf, .slice Af lf cf, .bool ng, .slice Ag lg cg]) (cs := #[.bool ne, .slice Ae le ce, .bool nf, .slice Af lf cf, .bool ng, .slice Ag lg cg]) (T rfl rfl) rfl ?_)
 intro b6 w7 n8
 have N9 : w.heap.size ≤ b6 := n8.eq ▸ E5.size
 have : b1 < b6 := n8.eq ▸ lt_of_blk n3.blk
 have E10 := below_ext E5 E5.size n8.ext
 refine lw_v (.int .i64 0) (dv_assign C) ?_
 refine lw_nil ?_
 refine rk_seq ?_
 refine rk_reg ?_
 have H11 := (n8.ext.blk n3.blk)
 refine lw_v (.agg #[.bool na, .slice Aa la ca, .bool nb, .slice Ab lb cb, .bool nm, .slice Am lm cm]) (dv_loads (l := [.bool na, .slice Aa la ca, .bool nb, .slice Ab lb cb, .bool nm, .slice Am lm cm]) agt102 sz102 (T rfl rfl) H11 rfl) ?_
 refine lw_v (.agg #[.bool ne, .slice Ae le ce, .bool nf, .slice Af lf cf, .bool ng, .slice Ag lg cg]) (dv_loads (l := [.bool ne, .slice Ae le ce, .bool nf, .slice Af lf cf, .bool ng, .slice Ag lg cg]) agt102 sz102 (T rfl rfl) n8.blk rfl) ?_
 have h12 := ((ha.ext n3.ext).ext n8.ext)
 have h13 := ((hb.ext n3.ext).ext n8.ext)
 have h14 := ((hm.ext n3.ext).ext n8.ext)
 have h15 := ((he.ext n3.ext).ext n8.ext)
 have h16 := ((hf.ext n3.ext).ext n8.ext)
 have h17 := ((hg.ext n3.ext).ext n8.ext)
 refine lw_e (oe_callf (vs := [.agg #[.bool na, .slice Aa la ca, .bool nb, .slice Ab lb cb, .bool nm, .slice Am lm cm], .agg #[.bool ne, .slice Ae le ce, .bool nf, .slice Af lf cf, .bool ng, .slice Ag lg cg]]) co88 (ar2 (T rfl rfl) (T rfl rfl)) (l3CmpX_ok h12 h13 h14 h15 h16 h17 (by first | decide | omega) (by first | decide | omega) (by first | decide | omega) (by first | decide | omega) (by first | decide | omega) (by first | decide | omega) ) ?_)
 rintro _ w18 ⟨rfl, e19⟩
 have E20 := below_ext E10 E10.size e19
 refine lw_v (.int .i64 (sgnI (x * r - p * u))) (dv_assign (T rfl rfl)) ?_
 refine lw_nil ?_
 refine rk_seq ?_
 refine rk_seq ?_
 refine rk_reg ?_
 refine lw_v (.int .i64 (sgnI (x * r - p * u))) (dv_move (T rfl rfl)) ?_
 refine lw_v (.bool (decide ((sgnI (x * r - p * u)) ≠ 0))) (dv_neq (a := sgnI (x * r - p * u)) (b := 0) (T rfl rfl) C) ?_
 refine lw_nil ?_
 by_cases hb21 : (sgnI (x * r - p * u)) ≠ 0
 · refine rk_ct (T rfl (congrArg Value.bool (decide_eq_true hb21))) ?_
   refine rk_seq ?_
   refine rk_reg ?_
   refine lw_v (.int .i64 (sgnI (x * r - p * u))) (dv_move (T rfl rfl)) ?_
   refine lw_v (.int .i64 (sgnI (x * r - p * u))) (dv_assign (T rfl rfl)) ?_
   refine lw_nil ?_
   refine rk_ret Try.func113 (v := .int .i64 (sgnI (x * r - p * u))) (res1 Try.results113 (rv_tmp rfl rfl)) ⟨_, rfl, ?_⟩
   exact ⟨(vi (by unfold pc; first | rw [if_pos (by assumption)] | rw [if_neg (by assumption)])), E20⟩
 · refine rk_cf (T rfl (congrArg Value.bool (decide_eq_false hb21))) ?_
   refine rk_skip ?_
   refine rk_seq ?_
   refine rk_reg ?_
   have H22 := (e19.blk H11)
   refine lw_v (.agg #[.bool na, .slice Aa la ca, .bool nb, .slice Ab lb cb, .bool nm, .slice Am lm cm]) (dv_loads (l := [.bool na, .slice Aa la ca, .bool nb, .slice Ab lb cb, .bool nm, .slice Am lm cm]) agt102 sz102 (T rfl rfl) H22 rfl) ?_
   have H23 := (e19.blk n8.blk)
   refine lw_v (.agg #[.bool ne, .slice Ae le ce, .bool nf, .slice Af lf cf, .bool ng, .slice Ag lg cg]) (dv_loads (l := [.bool ne, .slice Ae le ce, .bool nf, .slice Af lf cf, .bool ng, .slice Ag lg cg]) agt102 sz102 (T rfl rfl) H23 rfl) ?_
   have h24 := (h12.ext e19)
   have h25 := (h13.ext e19)
   have h26 := (h14.ext e19)
   have h27 := (h15.ext e19)
   have h28 := (h16.ext e19)
   have h29 := (h17.ext e19)
   refine lw_e (oe_callf (vs := [.agg #[.bool na, .slice Aa la ca, .bool nb, .slice Ab lb cb, .bool nm, .slice Am lm cm], .agg #[.bool ne, .slice Ae le ce, .bool nf, .slice Af lf cf, .bool ng, .slice Ag lg cg]]) co89 (ar2 (T rfl rfl) (T rfl rfl)) (l3CmpY_ok h24 h25 h26 h27 h28 h29 (by first | decide | omega) (by first | decide | omega) (by first | decide | omega) (by first | decide | omega) (by first | decide | omega) (by first | decide | omega) ) ?_)
   rintro _ w30 ⟨rfl, e31⟩
   have E32 := below_ext E20 E20.size e31
   refine lw_v (.int .i64 (sgnI (y * r - q * u))) (dv_assign (T rfl rfl)) ?_
   refine lw_nil ?_
   refine rk_ret Try.func113 (v := .int .i64 (sgnI (y * r - q * u))) (res1 Try.results113 (rv_tmp rfl rfl)) ⟨_, rfl, ?_⟩
   exact ⟨(vi (by unfold pc; first | rw [if_pos (by assumption)] | rw [if_neg (by assumption)])), E32⟩
set_option maxHeartbeats 1000000 in
theorem cmpPoints_ok {w : World} {x y u p q r : Int} (fx_ : fits x) (fy_ : fits y) (fu_ : fits u) (fp_ : fits p) (fq_ : fits q) (fr_ : fits r)  : Ct Try.prog 117 [.agg #[.int .u64 (wv3 x), .int .u64 (wv2 x), .int .u64 (wv1 x), .int .u64 (wv0 x), .int .u64 (wv3 y), .int .u64 (wv2 y), .int .u64 (wv1 y), .int .u64 (wv0 y), .int .u64 (wv3 u), .int .u64 (wv2 u), .int .u64 (wv1 u), .int .u64 (wv0 u)], .agg #[.int .u64 (wv3 p), .int .u64 (wv2 p), .int .u64 (wv1 p), .int .u64 (wv0 p), .int .u64 (wv3 q), .int .u64 (wv2 q), .int .u64 (wv1 q), .int .u64 (wv0 q), .int .u64 (wv3 r), .int .u64 (wv2 r), .int .u64 (wv1 r), .int .u64 (wv0 r)]] w fun v w1 => v = .int .i64 (pc x y u p q r) ∧ Ext w w1 := by
 refine ct_run (n := 40) Try.func117 rfl Try.ntmps117 rfl ?_
 have E0 : Below w.heap.size w w := Below.refl _ _
 refine rk_seq ?_
 refine rk_reg ?_
 refine lw_e (oe_box (v := .agg #[.int .u64 (wv3 x), .int .u64 (wv2 x), .int .u64 (wv1 x), .int .u64 (wv0 x), .int .u64 (wv3 y), .int .u64 (wv2 y), .int .u64 (wv1 y), .int .u64 (wv0 y), .int .u64 (wv3 u), .int .u64 (wv2 u), .int .u64 (wv1 u), .int .u64 (wv0 u)]) (cs := #[.int .u64 (wv3 x), .int .u64 (wv2 x), .int .u64 (wv1 x), .int .u64 (wv0 x), .int .u64 (wv3 y), .int .u64 (wv2 y), .int .u64 (wv1 y), .int .u64 (wv0 y), .int .u64 (wv3 u), .int .u64 (wv2 u), .int .u64 (wv1 u), .int .u64 (wv0 u)]) (T rfl rfl) rfl ?_)
 intro b1 w2 n3
 have N4 : w.heap.size ≤ b1 := n3.eq ▸ E0.size
 have E5 := below_ext E0 E0.size n3.ext
 refine lw_e (oe_box (v := .agg #[.int .u64 (wv3 p), .int .u64 (wv2 p), .int .u64 (wv1 p), .int .u64 (wv0 p), .int .u64 (wv3 q), .int .u64 (wv2 q), .int .u64 (wv1 q), .int .u64 (wv0 q), .int .u64 (wv3 r), .int .u64 (wv2 r), .int .u64 (wv1 r), .int .u64 (wv0 r)]) (cs := #[.int .u64 (wv3 p), .int .u64 (wv2 p), .int .u64 (wv1 p), .int .u64 (wv0 p), .int .u64 (wv3 q), .int .u64 (wv2 q), .int .u64 (wv1 q), .int .u64 (wv0 q), .int .u64 (wv3 r), .int .u64 (wv2 r), .int .u64 (wv1 r), .int .u64 (wv0 r)]) (T rfl rfl) rfl ?_)
 intro b6 w7 n8
 have N9 : w.heap.size ≤ b6 := n8.eq ▸ E5.size
 have : b1 < b6 := n8.eq ▸ lt_of_blk n3.blk
 have E10 := below_ext E5 E5.size n8.ext
 refine lw_v (.int .i64 0) (dv_assign C) ?_
 refine lw_nil ?_
 refine rk_seq ?_
 refine rk_seq ?_
 refine rk_reg ?_
 have H11 := (n8.ext.blk n3.blk)
 refine lw_v (.agg #[.int .u64 (wv3 x), .int .u64 (wv2 x), .int .u64 (wv1 x), .int .u64 (wv0 x), .int .u64 (wv3 y), .int .u64 (wv2 y), .int .u64 (wv1 y), .int .u64 (wv0 y), .int .u64 (wv3 u), .int .u64 (wv2 u), .int .u64 (wv1 u), .int .u64 (wv0 u)]) (dv_loads (l := [.int .u64 (wv3 x), .int .u64 (wv2 x), .int .u64 (wv1 x), .int .u64 (wv0 x), .int .u64 (wv3 y), .int .u64 (wv2 y), .int .u64 (wv1 y), .int .u64 (wv0 y), .int .u64 (wv3 u), .int .u64 (wv2 u), .int .u64 (wv1 u), .int .u64 (wv0 u)]) agt37 sz37 (T rfl rfl) H11 rfl) ?_
 refine lw_v (.agg #[.int .u64 (wv3 p), .int .u64 (wv2 p), .int .u64 (wv1 p), .int .u64 (wv0 p), .int .u64 (wv3 q), .int .u64 (wv2 q), .int .u64 (wv1 q), .int .u64 (wv0 q), .int .u64 (wv3 r), .int .u64 (wv2 r), .int .u64 (wv1 r), .int .u64 (wv0 r)]) (dv_loads (l := [.int .u64 (wv3 p), .int .u64 (wv2 p), .int .u64 (wv1 p), .int .u64 (wv0 p), .int .u64 (wv3 q), .int .u64 (wv2 q), .int .u64 (wv1 q), .int .u64 (wv0 q), .int .u64 (wv3 r), .int .u64 (wv2 r), .int .u64 (wv1 r), .int .u64 (wv0 r)]) agt37 sz37 (T rfl rfl) n8.blk rfl) ?_
 refine lw_v (.bool (decide (([wv3 x, wv2 x, wv1 x, wv0 x, wv3 y, wv2 y, wv1 y, wv0 y, wv3 u, wv2 u, wv1 u, wv0 u] : List Int) = [wv3 p, wv2 p, wv1 p, wv0 p, wv3 q, wv2 q, wv1 q, wv0 q, wv3 r, wv2 r, wv1 r, wv0 r]))) (dv_eqln (k := .u64) (la := [wv3 x, wv2 x, wv1 x, wv0 x, wv3 y, wv2 y, wv1 y, wv0 y, wv3 u, wv2 u, wv1 u, wv0 u]) (lb := [wv3 p, wv2 p, wv1 p, wv0 p, wv3 q, wv2 q, wv1 q, wv0 q, wv3 r, wv2 r, wv1 r, wv0 r]) fl37 eg37 (T rfl rfl) (T rfl rfl) rfl rfl) ?_
 refine lw_nil ?_
 by_cases hb12 : ([wv3 x, wv2 x, wv1 x, wv0 x, wv3 y, wv2 y, wv1 y, wv0 y, wv3 u, wv2 u, wv1 u, wv0 u] : List Int) = [wv3 p, wv2 p, wv1 p, wv0 p, wv3 q, wv2 q, wv1 q, wv0 q, wv3 r, wv2 r, wv1 r, wv0 r]
 · have hz13 := (wl3_eq fx_ fy_ fu_ fp_ fq_ fr_).1 hb12
   refine rk_ct (T rfl (congrArg Value.bool (decide_eq_true hb12))) ?_
   refine rk_seq ?_
   refine rk_reg ?_
   refine lw_v (.int .i64 0) (dv_assign C) ?_
   refine lw_nil ?_
   refine rk_ret Try.func117 (v := .int .i64 0) (res1 Try.results117 (rv_tmp rfl rfl)) ⟨_, rfl, ?_⟩
   exact ⟨(vi (by exact (by first | (obtain ⟨rfl, rfl, rfl⟩ : x = p ∧ y = q ∧ u = r := ‹_›; exact (pc_self ..).symm) | (unfold pc; first | rw [if_pos (by assumption)] | rw [if_neg (by assumption)])))), E10⟩
 · have hz14 := mt (wl3_eq fx_ fy_ fu_ fp_ fq_ fr_).2 hb12
   refine rk_cf (T rfl (congrArg Value.bool (decide_eq_false hb12))) ?_
   refine rk_skip ?_
   refine rk_seq ?_
   have : b1 < w7.heap.size := lt_of_blk H11
   have : b6 < w7.heap.size := lt_of_blk n8.blk
   have : w.heap.size ≤ w7.heap.size := E10.size
   refine rk_par2 [fun vq wq_ => vq = .agg #[.int .u64 (wv3 x), .int .u64 (wv2 x), .int .u64 (wv1 x), .int .u64 (wv0 x), .int .u64 (wv3 y), .int .u64 (wv2 y), .int .u64 (wv1 y), .int .u64 (wv0 y), .int .u64 (wv3 u), .int .u64 (wv2 u), .int .u64 (wv1 u), .int .u64 (wv0 u)], fun vq wq_ => ∃ (nr29 : Bool) (A30 : Option Addr) (n31 : Nat) (c32 : Nat) (nr33 : Bool) (A34 : Option Addr) (n35 : Nat) (c36 : Nat) (nr37 : Bool) (A38 : Option Addr) (n39 : Nat) (c40 : Nat), vq = .agg #[.bool nr29, .slice A30 n31 c32, .bool nr33, .slice A34 n35 c36, .bool nr37, .slice A38 n39 c40] ∧ Num 64 29 .u64 wq_ nr29 A30 n31 c32 x 256 ∧ Num 64 29 .u64 wq_ nr33 A34 n35 c36 y 256 ∧ Num 64 29 .u64 wq_ nr37 A38 n39 c40 u 256, fun vq wq_ => vq = .agg #[.int .u64 (wv3 p), .int .u64 (wv2 p), .int .u64 (wv1 p), .int .u64 (wv0 p), .int .u64 (wv3 q), .int .u64 (wv2 q), .int .u64 (wv1 q), .int .u64 (wv0 q), .int .u64 (wv3 r), .int .u64 (wv2 r), .int .u64 (wv1 r), .int .u64 (wv0 r)], fun vq wq_ => ∃ (nr61 : Bool) (A62 : Option Addr) (n63 : Nat) (c64 : Nat) (nr65 : Bool) (A66 : Option Addr) (n67 : Nat) (c68 : Nat) (nr69 : Bool) (A70 : Option Addr) (n71 : Nat) (c72 : Nat), vq = .agg #[.bool nr61, .slice A62 n63 c64, .bool nr65, .slice A66 n67 c68, .bool nr69, .slice A70 n71 c72] ∧ Num 64 29 .u64 wq_ nr61 A62 n63 c64 p 256 ∧ Num 64 29 .u64 wq_ nr65 A66 n67 c68 q 256 ∧ Num 64 29 .u64 wq_ nr69 A70 n71 c72 r 256, fun _ _ => True, fun _ _ => True, fun _ _ => True, fun _ _ => True] [⟨4, 6, 1, 122, #[.bool false, .slice none 0 0, .bool false, .slice none 0 0, .bool false, .slice none 0 0]⟩, ⟨5, 7, 3, 122, #[.bool false, .slice none 0 0, .bool false, .slice none 0 0, .bool false, .slice none 0 0]⟩] [122] mo (by kernel_rfl) (by kernel_rfl) ?_ ?_ ?_ ?_ ?_
   · intro e he e2 he2 h; simp only [List.mem_cons, List.not_mem_nil, or_false] at he he2; rcases he with rfl | rfl <;> rcases he2 with rfl | rfl <;> first | rfl | exact absurd h (by decide)
   · exact ⟨⟨fun v w w2 e h => h, fun v w w2 b cs T fz s hb hT h => h⟩, ⟨fun v w w2 e ⟨nr29, A30, n31, c32, nr33, A34, n35, c36, nr37, A38, n39, c40, hv, h0_, h1_, h2_⟩ => ⟨nr29, A30, n31, c32, nr33, A34, n35, c36, nr37, A38, n39, c40, hv, h0_.ext e, h1_.ext e, h2_.ext e⟩, fun v w w2 b cs T fz s hb hT ⟨nr29, A30, n31, c32, nr33, A34, n35, c36, nr37, A38, n39, c40, hv, h0_, h1_, h2_⟩ => ⟨nr29, A30, n31, c32, nr33, A34, n35, c36, nr37, A38, n39, c40, hv, h0_.st s hb (ts_ne hT (by decide)), h1_.st s hb (ts_ne hT (by decide)), h2_.st s hb (ts_ne hT (by decide))⟩⟩, ⟨fun v w w2 e h => h, fun v w w2 b cs T fz s hb hT h => h⟩, ⟨fun v w w2 e ⟨nr61, A62, n63, c64, nr65, A66, n67, c68, nr69, A70, n71, c72, hv, h0_, h1_, h2_⟩ => ⟨nr61, A62, n63, c64, nr65, A66, n67, c68, nr69, A70, n71, c72, hv, h0_.ext e, h1_.ext e, h2_.ext e⟩, fun v w w2 b cs T fz s hb hT ⟨nr61, A62, n63, c64, nr65, A66, n67, c68, nr69, A70, n71, c72, hv, h0_, h1_, h2_⟩ => ⟨nr61, A62, n63, c64, nr65, A66, n67, c68, nr69, A70, n71, c72, hv, h0_.st s hb (ts_ne hT (by decide)), h1_.st s hb (ts_ne hT (by decide)), h2_.st s hb (ts_ne hT (by decide))⟩⟩, ⟨fun v w w2 e h => h, fun v w w2 b cs T fz s hb hT h => h⟩, ⟨fun v w w2 e h => h, fun v w w2 b cs T fz s hb hT h => h⟩, ⟨fun v w w2 e h => h, fun v w w2 b cs T fz s hb hT h => h⟩, ⟨fun v w w2 e h => h, fun v w w2 b cs T fz s hb hT h => h⟩, trivial⟩
   · refine ⟨?_, ?_, ?_, ?_, ?_, ?_, ?_, ?_, trivial⟩
     · refine .inr ⟨by kernel_rfl, ?_⟩
       intro fr16 w15 e17 hF18 hD19
       have E20 := below_ext E10 E10.size e17
       have H21 := (e17.blk H11)
       exact DV.oe (dv_loads (l := [.int .u64 (wv3 x), .int .u64 (wv2 x), .int .u64 (wv1 x), .int .u64 (wv0 x), .int .u64 (wv3 y), .int .u64 (wv2 y), .int .u64 (wv1 y), .int .u64 (wv0 y), .int .u64 (wv3 u), .int .u64 (wv2 u), .int .u64 (wv1 u), .int .u64 (wv0 u)]) agt37 sz37 (T rfl (hF18 2 (by kernel_rfl))) H21 rfl) ⟨Below.refl _ _, rfl⟩
     · refine .inr ⟨by kernel_rfl, ?_⟩
       intro fr23 w22 e24 hF25 hD26
       have E27 := below_ext E10 E10.size e24
       have hv28 : fr23 11 = .agg #[.int .u64 (wv3 x), .int .u64 (wv2 x), .int .u64 (wv1 x), .int .u64 (wv0 x), .int .u64 (wv3 y), .int .u64 (wv2 y), .int .u64 (wv1 y), .int .u64 (wv0 y), .int .u64 (wv3 u), .int .u64 (wv2 u), .int .u64 (wv1 u), .int .u64 (wv0 u)] := hD26 0 _ (by kernel_rfl) rfl (by kernel_rfl)
       refine id (oe_callf (vs := [.agg #[.int .u64 (wv3 x), .int .u64 (wv2 x), .int .u64 (wv1 x), .int .u64 (wv0 x), .int .u64 (wv3 y), .int .u64 (wv2 y), .int .u64 (wv1 y), .int .u64 (wv0 y), .int .u64 (wv3 u), .int .u64 (wv2 u), .int .u64 (wv1 u), .int .u64 (wv0 u)]]) co90 (ar1 (T rfl hv28)) (spot_ok fx_ fy_ fu_  ) ?_)
       rintro _ w44 ⟨nr29, A30, n31, c32, nr33, A34, n35, c36, nr37, A38, n39, c40, rfl, e45, h41, h42, h43⟩
       have E46 := below_ext E27 E27.size e45
       have lh41 := Num.len (by decide) h41
       have lh42 := Num.len (by decide) h42
       have lh43 := Num.len (by decide) h43
       exact ⟨e45, nr29, A30, n31, c32, nr33, A34, n35, c36, nr37, A38, n39, c40, rfl, h41, h42, h43⟩
     · refine .inr ⟨by kernel_rfl, ?_⟩
       intro fr48 w47 e49 hF50 hD51
       have E52 := below_ext E10 E10.size e49
       have H53 := (e49.blk n8.blk)
       exact DV.oe (dv_loads (l := [.int .u64 (wv3 p), .int .u64 (wv2 p), .int .u64 (wv1 p), .int .u64 (wv0 p), .int .u64 (wv3 q), .int .u64 (wv2 q), .int .u64 (wv1 q), .int .u64 (wv0 q), .int .u64 (wv3 r), .int .u64 (wv2 r), .int .u64 (wv1 r), .int .u64 (wv0 r)]) agt37 sz37 (T rfl (hF50 3 (by kernel_rfl))) H53 rfl) ⟨Below.refl _ _, rfl⟩
     · refine .inr ⟨by kernel_rfl, ?_⟩
       intro fr55 w54 e56 hF57 hD58
       have E59 := below_ext E10 E10.size e56
       have hv60 : fr55 13 = .agg #[.int .u64 (wv3 p), .int .u64 (wv2 p), .int .u64 (wv1 p), .int .u64 (wv0 p), .int .u64 (wv3 q), .int .u64 (wv2 q), .int .u64 (wv1 q), .int .u64 (wv0 q), .int .u64 (wv3 r), .int .u64 (wv2 r), .int .u64 (wv1 r), .int .u64 (wv0 r)] := hD58 2 _ (by kernel_rfl) rfl (by kernel_rfl)
       refine id (oe_callf (vs := [.agg #[.int .u64 (wv3 p), .int .u64 (wv2 p), .int .u64 (wv1 p), .int .u64 (wv0 p), .int .u64 (wv3 q), .int .u64 (wv2 q), .int .u64 (wv1 q), .int .u64 (wv0 q), .int .u64 (wv3 r), .int .u64 (wv2 r), .int .u64 (wv1 r), .int .u64 (wv0 r)]]) co90 (ar1 (T rfl hv60)) (spot_ok fp_ fq_ fr_  ) ?_)
       rintro _ w76 ⟨nr61, A62, n63, c64, nr65, A66, n67, c68, nr69, A70, n71, c72, rfl, e77, h73, h74, h75⟩
       have E78 := below_ext E59 E59.size e77
       have lh73 := Num.len (by decide) h73
       have lh74 := Num.len (by decide) h74
       have lh75 := Num.len (by decide) h75
       exact ⟨e77, nr61, A62, n63, c64, nr65, A66, n67, c68, nr69, A70, n71, c72, rfl, h73, h74, h75⟩
     · exact .inl (.inr ⟨by kernel_rfl, fun _ _ => trivial⟩)
     · exact .inl (.inr ⟨by kernel_rfl, fun _ _ => trivial⟩)
     · exact .inl (.inl (by kernel_rfl))
     · exact .inl (.inl (by kernel_rfl))
   · refine ⟨⟨⟨_, rfl, fun _ _ => oe_alloc ze122 fun b w hn => ⟨b, rfl, hn⟩⟩, ⟨_, rfl, ?_⟩⟩, ⟨⟨_, rfl, fun _ _ => oe_alloc ze122 fun b w hn => ⟨b, rfl, hn⟩⟩, ⟨_, rfl, ?_⟩⟩, trivial⟩
     · intro fr80 w79 b84 e81 hF82 hD83 hA85 hB86
       have E87 := below_ext E10 E10.size e81
       obtain ⟨nr88, A89, n90, c91, nr92, A93, n94, c95, nr96, A97, n98, c99, hv100, hp101, hp102, hp103⟩ : ∃ (nr29 : Bool) (A30 : Option Addr) (n31 : Nat) (c32 : Nat) (nr33 : Bool) (A34 : Option Addr) (n35 : Nat) (c36 : Nat) (nr37 : Bool) (A38 : Option Addr) (n39 : Nat) (c40 : Nat), fr80 12 = .agg #[.bool nr29, .slice A30 n31 c32, .bool nr33, .slice A34 n35 c36, .bool nr37, .slice A38 n39 c40] ∧ Num 64 29 .u64 w79 nr29 A30 n31 c32 x 256 ∧ Num 64 29 .u64 w79 nr33 A34 n35 c36 y 256 ∧ Num 64 29 .u64 w79 nr37 A38 n39 c40 u 256 := hD83 1 _ (by kernel_rfl) rfl (by kernel_rfl)
       have lhp101 := Num.len (by decide) hp101
       have lhp102 := Num.len (by decide) hp102
       have lhp103 := Num.len (by decide) hp103
       refine id (oe_store (v := .agg #[.bool nr88, .slice A89 n90 c91, .bool nr92, .slice A93 n94 c95, .bool nr96, .slice A97 n98 c99]) (vs := [.bool nr88, .slice A89 n90 c91, .bool nr92, .slice A93 n94 c95, .bool nr96, .slice A97 n98 c99]) (l := [.bool nr88, .slice A89 n90 c91, .bool nr92, .slice A93 n94 c95, .bool nr96, .slice A97 n98 c99]) (T rfl hA85) (T rfl hv100) sz122 rfl rfl rfl hB86 rfl ?_)
       intro w104 s105 H106
       exact ⟨s105, H106.trans (congrArg (fun v : Value => some (Obj.cells v.cells 122)) (show fr80 12 = _ from hv100).symm)⟩
     · intro fr109 w108 b113 e110 hF111 hD112 hA114 hB115
       have E116 := below_ext E10 E10.size e110
       obtain ⟨nr117, A118, n119, c120, nr121, A122, n123, c124, nr125, A126, n127, c128, hv129, hp130, hp131, hp132⟩ : ∃ (nr61 : Bool) (A62 : Option Addr) (n63 : Nat) (c64 : Nat) (nr65 : Bool) (A66 : Option Addr) (n67 : Nat) (c68 : Nat) (nr69 : Bool) (A70 : Option Addr) (n71 : Nat) (c72 : Nat), fr109 14 = .agg #[.bool nr61, .slice A62 n63 c64, .bool nr65, .slice A66 n67 c68, .bool nr69, .slice A70 n71 c72] ∧ Num 64 29 .u64 w108 nr61 A62 n63 c64 p 256 ∧ Num 64 29 .u64 w108 nr65 A66 n67 c68 q 256 ∧ Num 64 29 .u64 w108 nr69 A70 n71 c72 r 256 := hD112 3 _ (by kernel_rfl) rfl (by kernel_rfl)
       have lhp130 := Num.len (by decide) hp130
       have lhp131 := Num.len (by decide) hp131
       have lhp132 := Num.len (by decide) hp132
       refine id (oe_store (v := .agg #[.bool nr117, .slice A118 n119 c120, .bool nr121, .slice A122 n123 c124, .bool nr125, .slice A126 n127 c128]) (vs := [.bool nr117, .slice A118 n119 c120, .bool nr121, .slice A122 n123 c124, .bool nr125, .slice A126 n127 c128]) (l := [.bool nr117, .slice A118 n119 c120, .bool nr121, .slice A122 n123 c124, .bool nr125, .slice A126 n127 c128]) (T rfl hA114) (T rfl hv129) sz122 rfl rfl rfl hB115 rfl ?_)
       intro w133 s134 H135
       exact ⟨s134, H135.trans (congrArg (fun v : Value => some (Obj.cells v.cells 122)) (show fr109 14 = _ from hv129).symm)⟩
   intro fr138 w137 e139 hF140 hP141 hM142 hN143
   have E144 := below_ext E10 E10.size e139
   obtain ⟨_, p145, _, p146, _, _, _, _, _⟩ := hP141
   obtain ⟨nr147, A148, n149, c150, nr151, A152, n153, c154, nr155, A156, n157, c158, hv159, hp160, hp161, hp162⟩ : ∃ (nr29 : Bool) (A30 : Option Addr) (n31 : Nat) (c32 : Nat) (nr33 : Bool) (A34 : Option Addr) (n35 : Nat) (c36 : Nat) (nr37 : Bool) (A38 : Option Addr) (n39 : Nat) (c40 : Nat), fr138 12 = .agg #[.bool nr29, .slice A30 n31 c32, .bool nr33, .slice A34 n35 c36, .bool nr37, .slice A38 n39 c40] ∧ Num 64 29 .u64 w137 nr29 A30 n31 c32 x 256 ∧ Num 64 29 .u64 w137 nr33 A34 n35 c36 y 256 ∧ Num 64 29 .u64 w137 nr37 A38 n39 c40 u 256 := p145.resolve_left (nst (by kernel_rfl))
   have lhp160 := Num.len (by decide) hp160
   have lhp161 := Num.len (by decide) hp161
   have lhp162 := Num.len (by decide) hp162
   obtain ⟨nr163, A164, n165, c166, nr167, A168, n169, c170, nr171, A172, n173, c174, hv175, hp176, hp177, hp178⟩ : ∃ (nr61 : Bool) (A62 : Option Addr) (n63 : Nat) (c64 : Nat) (nr65 : Bool) (A66 : Option Addr) (n67 : Nat) (c68 : Nat) (nr69 : Bool) (A70 : Option Addr) (n71 : Nat) (c72 : Nat), fr138 14 = .agg #[.bool nr61, .slice A62 n63 c64, .bool nr65, .slice A66 n67 c68, .bool nr69, .slice A70 n71 c72] ∧ Num 64 29 .u64 w137 nr61 A62 n63 c64 p 256 ∧ Num 64 29 .u64 w137 nr65 A66 n67 c68 q 256 ∧ Num 64 29 .u64 w137 nr69 A70 n71 c72 r 256 := p146.resolve_left (nst (by kernel_rfl))
   have lhp176 := Num.len (by decide) hp176
   have lhp177 := Num.len (by decide) hp177
   have lhp178 := Num.len (by decide) hp178
   obtain ⟨⟨b179, hA180, hB181, hC182⟩, ⟨b183, hA184, hB185, hC186⟩, _⟩ := hM142
   have H187 : w137.heap[b179]? = some (.cells #[.bool nr147, .slice A148 n149 c150, .bool nr151, .slice A152 n153 c154, .bool nr155, .slice A156 n157 c158] 122) := hC182.trans (congrArg (fun v : Value => some (Obj.cells v.cells 122)) hv159)
   have N188 : w.heap.size ≤ b179 := by omega
   have H189 : w137.heap[b183]? = some (.cells #[.bool nr163, .slice A164 n165 c166, .bool nr167, .slice A168 n169 c170, .bool nr171, .slice A172 n173 c174] 122) := hC186.trans (congrArg (fun v : Value => some (Obj.cells v.cells 122)) hv175)
   have N190 : w.heap.size ≤ b183 := by omega
   have : b183 ≠ b179 := fun hh => hN143 _ (.tail _ (.head _)) _ (.head _) (by decide) (hA184.trans ((congrArg (fun q => Value.pointer (some ⟨q, 0, none⟩)) hh).trans hA180.symm))
   refine rk_seq ?_
   refine rk_seq ?_
   refine rk_any (fun w => w.heap[b179]? = some (.cells #[.bool nr147, .slice A148 n149 c150, .bool nr151, .slice A152 n153 c154, .bool nr155, .slice A156 n157 c158] 122) ∧ w.heap[b183]? = some (.cells #[.bool nr163, .slice A164 n165 c166, .bool nr167, .slice A168 n169 c170, .bool nr171, .slice A172 n173 c174] 122)) [11] mo ?_
   intro w191 d192
   have E193 := below_ext E144 E144.size d192.ext
   have H194 := (d192.ext.blk H187)
   have H195 := (d192.ext.blk H189)
   refine aw_pure 0 (.pointer (some ⟨b179, 0, none⟩)) rfl (by kernel_rfl) .none ⟨H194, H195⟩ (fun _ => dv_fieldAddr (a := ⟨b179, 0, none⟩) (a' := ⟨b179, 0, none⟩) fo122_0 (T rfl hA180) rfl) ?_
   refine aw_load 1 (.agg #[.bool nr147, .slice A148 n149 c150]) rfl (by kernel_rfl) .none ⟨H194, H195⟩ (fun _ s => dv_loads (l := [.bool nr147, .slice A148 n149 c150]) agt120 sz120 (T rfl rfl) s.1 rfl) ?_
   refine aw_pure 2 (.pointer (some ⟨b183, 4, none⟩)) rfl (by kernel_rfl) .none ⟨H194, H195⟩ (fun _ => dv_fieldAddr (a := ⟨b183, 0, none⟩) (a' := ⟨b183, 4, none⟩) fo122_2 (T rfl hA184) rfl) ?_
   refine aw_load 3 (.agg #[.bool nr171, .slice A172 n173 c174]) rfl (by kernel_rfl) .none ⟨H194, H195⟩ (fun _ s => dv_loads (l := [.bool nr171, .slice A172 n173 c174]) agt120 sz120 (T rfl rfl) s.2 rfl) ?_
   refine aw_pure 5 (.pointer (some ⟨b183, 0, none⟩)) rfl (by kernel_rfl) .none ⟨H194, H195⟩ (fun _ => dv_fieldAddr (a := ⟨b183, 0, none⟩) (a' := ⟨b183, 0, none⟩) fo122_0 (T rfl hA184) rfl) ?_
   refine aw_load 6 (.agg #[.bool nr163, .slice A164 n165 c166]) rfl (by kernel_rfl) .none ⟨H194, H195⟩ (fun _ s => dv_loads (l := [.bool nr163, .slice A164 n165 c166]) agt120 sz120 (T rfl rfl) s.2 rfl) ?_
   refine aw_pure 7 (.pointer (some ⟨b179, 4, none⟩)) rfl (by kernel_rfl) .none ⟨H194, H195⟩ (fun _ => dv_fieldAddr (a := ⟨b179, 0, none⟩) (a' := ⟨b179, 4, none⟩) fo122_2 (T rfl hA180) rfl) ?_
   refine aw_load 8 (.agg #[.bool nr155, .slice A156 n157 c158]) rfl (by kernel_rfl) .none ⟨H194, H195⟩ (fun _ s => dv_loads (l := [.bool nr155, .slice A156 n157 c158]) agt120 sz120 (T rfl rfl) s.1 rfl) ?_
   have h196 := (hp160.ext d192.ext)
   have h197 := (hp178.ext d192.ext)
   refine aw_one 4 rfl (by kernel_rfl) .none (oe_callf (vs := [.agg #[.bool nr147, .slice A148 n149 c150], .agg #[.bool nr171, .slice A172 n173 c174]]) co93 (ar2 (T rfl rfl) (T rfl rfl)) (nby_ok h196 h197 (by first | decide | omega) (by first | decide | omega)) ?_)
   rintro _ w203 ⟨nr198, A199, n200, c201, rfl, e204, h202⟩
   have E205 := below_ext E193 E193.size e204
   have lh202 := Num.len (by decide) h202
   have H206 := (e204.blk H194)
   have H207 := (e204.blk H195)
   refine ⟨.inr ⟨H206, H207⟩, ?_⟩
   have h208 := ((hp176.ext d192.ext).ext e204)
   have h209 := ((hp162.ext d192.ext).ext e204)
   refine aw_one 9 rfl (by kernel_rfl) .none (oe_callf (vs := [.agg #[.bool nr163, .slice A164 n165 c166], .agg #[.bool nr155, .slice A156 n157 c158]]) co93 (ar2 (T rfl rfl) (T rfl rfl)) (nby_ok h208 h209 (by first | decide | omega) (by first | decide | omega)) ?_)
   rintro _ w215 ⟨nr210, A211, n212, c213, rfl, e216, h214⟩
   have E217 := below_ext E205 E205.size e216
   have lh214 := Num.len (by decide) h214
   have H218 := (e216.blk H206)
   have H219 := (e216.blk H207)
   refine ⟨.inr ⟨H218, H219⟩, ?_⟩
   have h220 := (h202.ext e216)
   refine aw_one 10 rfl (by kernel_rfl) .none (oe_callf (vs := [.agg #[.bool nr198, .slice A199 n200 c201], .agg #[.bool nr210, .slice A211 n212 c213]]) co91 (ar2 (T rfl rfl) (T rfl rfl)) (ncmp_ok h220 h214 (by first | decide | omega) (by first | decide | omega)) ?_)
   rintro _ w221 ⟨rfl, e222⟩
   have E223 := below_ext E217 E217.size e222
   have H224 := (e222.blk H218)
   have H225 := (e222.blk H219)
   refine ⟨.inr ⟨H224, H225⟩, ?_⟩
   refine aw_last 11 (.int .i64 (sgnI ((x * r) - (p * u)))) rfl (by kernel_rfl) .none (fun _ => dv_assign (T rfl rfl)) ?_
   refine aw_done (by kernel_rfl) ?_
   refine rk_seq ?_
   refine rk_reg ?_
   refine lw_v (.int .i64 (sgnI ((x * r) - (p * u)))) (dv_move (T rfl rfl)) ?_
   refine lw_v (.bool (decide ((sgnI ((x * r) - (p * u))) ≠ 0))) (dv_neq (a := sgnI ((x * r) - (p * u))) (b := 0) (T rfl rfl) C) ?_
   refine lw_nil ?_
   by_cases hb226 : (sgnI ((x * r) - (p * u))) ≠ 0
   · refine rk_ct (T rfl (congrArg Value.bool (decide_eq_true hb226))) ?_
     refine rk_seq ?_
     refine rk_reg ?_
     refine lw_v (.int .i64 (sgnI ((x * r) - (p * u)))) (dv_move (T rfl rfl)) ?_
     refine lw_v (.int .i64 (sgnI ((x * r) - (p * u)))) (dv_assign (T rfl rfl)) ?_
     refine lw_nil ?_
     refine rk_ret Try.func117 (v := .int .i64 (sgnI ((x * r) - (p * u)))) (res1 Try.results117 (rv_tmp rfl rfl)) ⟨_, rfl, ?_⟩
     exact ⟨(vi (by exact (by first | (obtain ⟨rfl, rfl, rfl⟩ : x = p ∧ y = q ∧ u = r := ‹_›; exact (pc_self ..).symm) | (unfold pc; first | rw [if_pos (by assumption)] | rw [if_neg (by assumption)])))), E223⟩
   · refine rk_cf (T rfl (congrArg Value.bool (decide_eq_false hb226))) ?_
     refine rk_skip ?_
     refine rk_seq ?_
     refine rk_any (fun w => w.heap[b179]? = some (.cells #[.bool nr147, .slice A148 n149 c150, .bool nr151, .slice A152 n153 c154, .bool nr155, .slice A156 n157 c158] 122) ∧ w.heap[b183]? = some (.cells #[.bool nr163, .slice A164 n165 c166, .bool nr167, .slice A168 n169 c170, .bool nr171, .slice A172 n173 c174] 122)) [11] mo ?_
     intro w227 d228
     have E229 := below_ext E223 E223.size d228.ext
     have H230 := (d228.ext.blk H224)
     have H231 := (d228.ext.blk H225)
     refine aw_pure 0 (.pointer (some ⟨b179, 2, none⟩)) rfl (by kernel_rfl) .none ⟨H230, H231⟩ (fun _ => dv_fieldAddr (a := ⟨b179, 0, none⟩) (a' := ⟨b179, 2, none⟩) fo122_1 (T rfl hA180) rfl) ?_
     refine aw_load 1 (.agg #[.bool nr151, .slice A152 n153 c154]) rfl (by kernel_rfl) .none ⟨H230, H231⟩ (fun _ s => dv_loads (l := [.bool nr151, .slice A152 n153 c154]) agt120 sz120 (T rfl rfl) s.1 rfl) ?_
     refine aw_pure 2 (.pointer (some ⟨b183, 4, none⟩)) rfl (by kernel_rfl) .none ⟨H230, H231⟩ (fun _ => dv_fieldAddr (a := ⟨b183, 0, none⟩) (a' := ⟨b183, 4, none⟩) fo122_2 (T rfl hA184) rfl) ?_
     refine aw_load 3 (.agg #[.bool nr171, .slice A172 n173 c174]) rfl (by kernel_rfl) .none ⟨H230, H231⟩ (fun _ s => dv_loads (l := [.bool nr171, .slice A172 n173 c174]) agt120 sz120 (T rfl rfl) s.2 rfl) ?_
     refine aw_pure 5 (.pointer (some ⟨b183, 2, none⟩)) rfl (by kernel_rfl) .none ⟨H230, H231⟩ (fun _ => dv_fieldAddr (a := ⟨b183, 0, none⟩) (a' := ⟨b183, 2, none⟩) fo122_1 (T rfl hA184) rfl) ?_
     refine aw_load 6 (.agg #[.bool nr167, .slice A168 n169 c170]) rfl (by kernel_rfl) .none ⟨H230, H231⟩ (fun _ s => dv_loads (l := [.bool nr167, .slice A168 n169 c170]) agt120 sz120 (T rfl rfl) s.2 rfl) ?_
     refine aw_pure 7 (.pointer (some ⟨b179, 4, none⟩)) rfl (by kernel_rfl) .none ⟨H230, H231⟩ (fun _ => dv_fieldAddr (a := ⟨b179, 0, none⟩) (a' := ⟨b179, 4, none⟩) fo122_2 (T rfl hA180) rfl) ?_
     refine aw_load 8 (.agg #[.bool nr155, .slice A156 n157 c158]) rfl (by kernel_rfl) .none ⟨H230, H231⟩ (fun _ s => dv_loads (l := [.bool nr155, .slice A156 n157 c158]) agt120 sz120 (T rfl rfl) s.1 rfl) ?_
     have h232 := (((((hp161.ext d192.ext).ext e204).ext e216).ext e222).ext d228.ext)
     have h233 := ((((h197.ext e204).ext e216).ext e222).ext d228.ext)
     refine aw_one 4 rfl (by kernel_rfl) .none (oe_callf (vs := [.agg #[.bool nr151, .slice A152 n153 c154], .agg #[.bool nr171, .slice A172 n173 c174]]) co93 (ar2 (T rfl rfl) (T rfl rfl)) (nby_ok h232 h233 (by first | decide | omega) (by first | decide | omega)) ?_)
     rintro _ w239 ⟨nr234, A235, n236, c237, rfl, e240, h238⟩
     have E241 := below_ext E229 E229.size e240
     have lh238 := Num.len (by decide) h238
     have H242 := (e240.blk H230)
     have H243 := (e240.blk H231)
     refine ⟨.inr ⟨H242, H243⟩, ?_⟩
     have h244 := ((((((hp177.ext d192.ext).ext e204).ext e216).ext e222).ext d228.ext).ext e240)
     have h245 := ((((h209.ext e216).ext e222).ext d228.ext).ext e240)
     refine aw_one 9 rfl (by kernel_rfl) .none (oe_callf (vs := [.agg #[.bool nr167, .slice A168 n169 c170], .agg #[.bool nr155, .slice A156 n157 c158]]) co93 (ar2 (T rfl rfl) (T rfl rfl)) (nby_ok h244 h245 (by first | decide | omega) (by first | decide | omega)) ?_)
     rintro _ w251 ⟨nr246, A247, n248, c249, rfl, e252, h250⟩
     have E253 := below_ext E241 E241.size e252
     have lh250 := Num.len (by decide) h250
     have H254 := (e252.blk H242)
     have H255 := (e252.blk H243)
     refine ⟨.inr ⟨H254, H255⟩, ?_⟩
     have h256 := (h238.ext e252)
     refine aw_one 10 rfl (by kernel_rfl) .none (oe_callf (vs := [.agg #[.bool nr234, .slice A235 n236 c237], .agg #[.bool nr246, .slice A247 n248 c249]]) co91 (ar2 (T rfl rfl) (T rfl rfl)) (ncmp_ok h256 h250 (by first | decide | omega) (by first | decide | omega)) ?_)
     rintro _ w257 ⟨rfl, e258⟩
     have E259 := below_ext E253 E253.size e258
     have H260 := (e258.blk H254)
     have H261 := (e258.blk H255)
     refine ⟨.inr ⟨H260, H261⟩, ?_⟩
     refine aw_last 11 (.int .i64 (sgnI ((y * r) - (q * u)))) rfl (by kernel_rfl) .none (fun _ => dv_assign (T rfl rfl)) ?_
     refine aw_done (by kernel_rfl) ?_
     refine rk_ret Try.func117 (v := .int .i64 (sgnI ((y * r) - (q * u)))) (res1 Try.results117 (rv_tmp rfl rfl)) ⟨_, rfl, ?_⟩
     exact ⟨(vi (by exact (by first | (obtain ⟨rfl, rfl, rfl⟩ : x = p ∧ y = q ∧ u = r := ‹_›; exact (pc_self ..).symm) | (unfold pc; first | rw [if_pos (by assumption)] | rw [if_neg (by assumption)])))), E259⟩
set_option maxHeartbeats 1000000 in
theorem l3Orient_ok {w : World}  {na : Bool} {Aa : Option Addr} {la ca : Nat} {x : Int} {sx : Nat} (ha : Num 32 183 .u32 w na Aa la ca x sx) {nb : Bool} {Ab : Option Addr} {lb cb : Nat} {y : Int} {sy : Nat} (hb : Num 32 183 .u32 w nb Ab lb cb y sy) {nm : Bool} {Am : Option Addr} {lm cm : Nat} {u : Int} {su : Nat} (hm : Num 32 183 .u32 w nm Am lm cm u su) {ne : Bool} {Ae : Option Addr} {le ce : Nat} {p : Int} {sp : Nat} (he : Num 32 183 .u32 w ne Ae le ce p sp) {nf : Bool} {Af : Option Addr} {lf cf : Nat} {q : Int} {sq : Nat} (hf : Num 32 183 .u32 w nf Af lf cf q sq) {ng : Bool} {Ag : Option Addr} {lg cg : Nat} {r : Int} {sr : Nat} (hg : Num 32 183 .u32 w ng Ag lg cg r sr) {ni : Bool} {Ai : Option Addr} {li ci : Nat} {xt : Int} {sd : Nat} (hi : Num 32 183 .u32 w ni Ai li ci xt sd) {nj : Bool} {Aj : Option Addr} {lj cj : Nat} {yt : Int} {se : Nat} (hj : Num 32 183 .u32 w nj Aj lj cj yt se) {nk : Bool} {Ak : Option Addr} {lk ck : Nat} {ut : Int} {st : Nat} (hk : Num 32 183 .u32 w nk Ak lk ck ut st) (hbsx : sx ≤ 10000) (hbsy : sy ≤ 10000) (hbsu : su ≤ 10000) (hbsp : sp ≤ 10000) (hbsq : sq ≤ 10000) (hbsr : sr ≤ 10000) (hbsd : sd ≤ 10000) (hbse : se ≤ 10000) (hbst : st ≤ 10000)  : Ct Try.prog 73 [.agg #[.bool na, .slice Aa la ca, .bool nb, .slice Ab lb cb, .bool nm, .slice Am lm cm], .agg #[.bool ne, .slice Ae le ce, .bool nf, .slice Af lf cf, .bool ng, .slice Ag lg cg], .agg #[.bool ni, .slice Ai li ci, .bool nj, .slice Aj lj cj, .bool nk, .slice Ak lk ck]] w fun v w1 => v = .int .i64 (ori x y u p q r xt yt ut) ∧ Ext w w1 := by
 refine ct_run (n := 58) Try.func73 rfl Try.ntmps73 rfl ?_
 have E0 : Below w.heap.size w w := Below.refl _ _
 have lha := Num.len (by decide) ha
 have lhb := Num.len (by decide) hb
 have lhm := Num.len (by decide) hm
 have lhe := Num.len (by decide) he
 have lhf := Num.len (by decide) hf
 have lhg := Num.len (by decide) hg
 have lhi := Num.len (by decide) hi
 have lhj := Num.len (by decide) hj
 have lhk := Num.len (by decide) hk
 refine rk_seq ?_
 refine rk_reg ?_
 refine lw_e (oe_box (v := .agg #[.bool na, .slice Aa la ca, .bool nb, .slice Ab lb cb, .bool nm, .slice Am lm cm]) (cs := #[.bool na, .slice Aa la ca, .bool nb, .slice Ab lb cb, .bool nm, .slice Am lm cm]) (T rfl rfl) rfl ?_)
 intro b1 w2 n3
 have N4 : w.heap.size ≤ b1 := n3.eq ▸ E0.size
 have E5 := below_ext E0 E0.size n3.ext
 refine lw_e (oe_box (v := .agg #[.bool ne, .slice Ae le ce, .bool nf, .slice Af lf cf, .bool ng, .slice Ag lg cg]) (cs := #[.bool ne, .slice Ae le ce, .bool nf, .slice Af lf cf, .bool ng, .slice Ag lg cg]) (T rfl rfl) rfl ?_)
 intro b6 w7 n8
 have N9 : w.heap.size ≤ b6 := n8.eq ▸ E5.size
 have : b1 < b6 := n8.eq ▸ lt_of_blk n3.blk
 have E10 := below_ext E5 E5.size n8.ext
 refine lw_e (oe_box (v := .agg #[.bool ni, .slice Ai li ci, .bool nj, .slice Aj lj cj, .bool nk, .slice Ak lk ck]) (cs := #[.bool ni, .slice Ai li ci, .bool nj, .slice Aj lj cj, .bool nk, .slice Ak lk ck]) (T rfl rfl) rfl ?_)
 intro b11 w12 n13
 have N14 : w.heap.size ≤ b11 := n13.eq ▸ E10.size
 have : b6 < b11 := n13.eq ▸ lt_of_blk n8.blk
 have E15 := below_ext E10 E10.size n13.ext
 refine lw_v (.int .i64 0) (dv_assign C) ?_
 refine lw_nil ?_
 refine rk_seq ?_
 have H16 := (n13.ext.blk (n8.ext.blk n3.blk))
 have : b1 < w12.heap.size := lt_of_blk H16
 have H17 := (n13.ext.blk n8.blk)
 have : b6 < w12.heap.size := lt_of_blk H17
 have : b11 < w12.heap.size := lt_of_blk n13.blk
 have : w.heap.size ≤ w12.heap.size := E15.size
 refine rk_par2 [fun vq wq_ => vq = .pointer (some ⟨b1, 0, none⟩), fun vq wq_ => vq = .agg #[.bool na, .slice Aa la ca], fun vq wq_ => vq = .pointer (some ⟨b6, 2, none⟩), fun vq wq_ => vq = .agg #[.bool nf, .slice Af lf cf], fun vq wq_ => vq = .pointer (some ⟨b11, 4, none⟩), fun vq wq_ => vq = .agg #[.bool nk, .slice Ak lk ck], fun vq wq_ => ∃ (nr70 : Bool) (A71 : Option Addr) (n72 : Nat) (c73 : Nat), vq = .agg #[.bool nr70, .slice A71 n72 c73] ∧ Num 32 183 .u32 wq_ nr70 A71 n72 c73 (q * ut) ((sq + st)), fun vq wq_ => vq = .pointer (some ⟨b6, 4, none⟩), fun vq wq_ => vq = .agg #[.bool ng, .slice Ag lg cg], fun vq wq_ => vq = .pointer (some ⟨b11, 2, none⟩), fun vq wq_ => vq = .agg #[.bool nj, .slice Aj lj cj], fun vq wq_ => ∃ (nr116 : Bool) (A117 : Option Addr) (n118 : Nat) (c119 : Nat), vq = .agg #[.bool nr116, .slice A117 n118 c119] ∧ Num 32 183 .u32 wq_ nr116 A117 n118 c119 (r * yt) ((sr + se)), fun vq wq_ => ∃ (nr142 : Bool) (A143 : Option Addr) (n144 : Nat) (c145 : Nat), vq = .agg #[.bool nr142, .slice A143 n144 c145] ∧ Num 32 183 .u32 wq_ nr142 A143 n144 c145 ((q * ut) - (r * yt)) ((max (sq + st) (sr + se) + 1)), fun vq wq_ => ∃ (nr164 : Bool) (A165 : Option Addr) (n166 : Nat) (c167 : Nat), vq = .agg #[.bool nr164, .slice A165 n166 c167] ∧ Num 32 183 .u32 wq_ nr164 A165 n166 c167 (x * ((q * ut) - (r * yt))) ((sx + (max (sq + st) (sr + se) + 1))), fun _ _ => True, fun _ _ => True] [⟨14, 15, 13, 100, #[.bool false, .slice none 0 0]⟩] [100] mo (by kernel_rfl) (by kernel_rfl) ?_ ?_ ?_ ?_ ?_
 · intro e he e2 he2 h; simp only [List.mem_cons, List.not_mem_nil, or_false] at he he2; rcases he with rfl <;> rcases he2 with rfl <;> first | rfl | exact absurd h (by decide)
 · exact ⟨⟨fun v w w2 e h => h, fun v w w2 b cs T fz s hb hT h => h⟩, ⟨fun v w w2 e h => h, fun v w w2 b cs T fz s hb hT h => h⟩, ⟨fun v w w2 e h => h, fun v w w2 b cs T fz s hb hT h => h⟩, ⟨fun v w w2 e h => h, fun v w w2 b cs T fz s hb hT h => h⟩, ⟨fun v w w2 e h => h, fun v w w2 b cs T fz s hb hT h => h⟩, ⟨fun v w w2 e h => h, fun v w w2 b cs T fz s hb hT h => h⟩, ⟨fun v w w2 e ⟨nr70, A71, n72, c73, hv, h0_⟩ => ⟨nr70, A71, n72, c73, hv, h0_.ext e⟩, fun v w w2 b cs T fz s hb hT ⟨nr70, A71, n72, c73, hv, h0_⟩ => ⟨nr70, A71, n72, c73, hv, h0_.st s hb (ts_ne hT (by decide))⟩⟩, ⟨fun v w w2 e h => h, fun v w w2 b cs T fz s hb hT h => h⟩, ⟨fun v w w2 e h => h, fun v w w2 b cs T fz s hb hT h => h⟩, ⟨fun v w w2 e h => h, fun v w w2 b cs T fz s hb hT h => h⟩, ⟨fun v w w2 e h => h, fun v w w2 b cs T fz s hb hT h => h⟩, ⟨fun v w w2 e ⟨nr116, A117, n118, c119, hv, h0_⟩ => ⟨nr116, A117, n118, c119, hv, h0_.ext e⟩, fun v w w2 b cs T fz s hb hT ⟨nr116, A117, n118, c119, hv, h0_⟩ => ⟨nr116, A117, n118, c119, hv, h0_.st s hb (ts_ne hT (by decide))⟩⟩, ⟨fun v w w2 e ⟨nr142, A143, n144, c145, hv, h0_⟩ => ⟨nr142, A143, n144, c145, hv, h0_.ext e⟩, fun v w w2 b cs T fz s hb hT ⟨nr142, A143, n144, c145, hv, h0_⟩ => ⟨nr142, A143, n144, c145, hv, h0_.st s hb (ts_ne hT (by decide))⟩⟩, ⟨fun v w w2 e ⟨nr164, A165, n166, c167, hv, h0_⟩ => ⟨nr164, A165, n166, c167, hv, h0_.ext e⟩, fun v w w2 b cs T fz s hb hT ⟨nr164, A165, n166, c167, hv, h0_⟩ => ⟨nr164, A165, n166, c167, hv, h0_.st s hb (ts_ne hT (by decide))⟩⟩, ⟨fun v w w2 e h => h, fun v w w2 b cs T fz s hb hT h => h⟩, ⟨fun v w w2 e h => h, fun v w w2 b cs T fz s hb hT h => h⟩, trivial⟩
 · refine ⟨?_, ?_, ?_, ?_, ?_, ?_, ?_, ?_, ?_, ?_, ?_, ?_, ?_, ?_, ?_, ?_, trivial⟩
   · refine .inr ⟨by kernel_rfl, ?_⟩
     intro fr19 w18 e20 hF21 hD22
     have E23 := below_ext E15 E15.size e20
     exact DV.oe (dv_fieldAddr (a := ⟨b1, 0, none⟩) (a' := ⟨b1, 0, none⟩) fo102_0 (T rfl (hF21 3 (by kernel_rfl))) rfl) ⟨Below.refl _ _, rfl⟩
   · refine .inr ⟨by kernel_rfl, ?_⟩
     intro fr25 w24 e26 hF27 hD28
     have E29 := below_ext E15 E15.size e26
     have hv30 : fr25 10 = .pointer (some ⟨b1, 0, none⟩) := hD28 0 _ (by kernel_rfl) rfl (by kernel_rfl)
     have H31 := (e26.blk H16)
     exact DV.oe (dv_loads (l := [.bool na, .slice Aa la ca]) agt100 sz100 (T rfl hv30) H31 rfl) ⟨Below.refl _ _, rfl⟩
   · refine .inr ⟨by kernel_rfl, ?_⟩
     intro fr33 w32 e34 hF35 hD36
     have E37 := below_ext E15 E15.size e34
     exact DV.oe (dv_fieldAddr (a := ⟨b6, 0, none⟩) (a' := ⟨b6, 2, none⟩) fo102_1 (T rfl (hF35 4 (by kernel_rfl))) rfl) ⟨Below.refl _ _, rfl⟩
   · refine .inr ⟨by kernel_rfl, ?_⟩
     intro fr39 w38 e40 hF41 hD42
     have E43 := below_ext E15 E15.size e40
     have hv44 : fr39 12 = .pointer (some ⟨b6, 2, none⟩) := hD42 2 _ (by kernel_rfl) rfl (by kernel_rfl)
     have H45 := (e40.blk H17)
     exact DV.oe (dv_loads (l := [.bool nf, .slice Af lf cf]) agt100 sz100 (T rfl hv44) H45 rfl) ⟨Below.refl _ _, rfl⟩
   · refine .inr ⟨by kernel_rfl, ?_⟩
     intro fr47 w46 e48 hF49 hD50
     have E51 := below_ext E15 E15.size e48
     exact DV.oe (dv_fieldAddr (a := ⟨b11, 0, none⟩) (a' := ⟨b11, 4, none⟩) fo102_2 (T rfl (hF49 5 (by kernel_rfl))) rfl) ⟨Below.refl _ _, rfl⟩
   · refine .inr ⟨by kernel_rfl, ?_⟩
     intro fr53 w52 e54 hF55 hD56
     have E57 := below_ext E15 E15.size e54
     have hv58 : fr53 14 = .pointer (some ⟨b11, 4, none⟩) := hD56 4 _ (by kernel_rfl) rfl (by kernel_rfl)
     have H59 := (e54.blk n13.blk)
     exact DV.oe (dv_loads (l := [.bool nk, .slice Ak lk ck]) agt100 sz100 (T rfl hv58) H59 rfl) ⟨Below.refl _ _, rfl⟩
   · refine .inr ⟨by kernel_rfl, ?_⟩
     intro fr61 w60 e62 hF63 hD64
     have E65 := below_ext E15 E15.size e62
     have hv66 : fr61 13 = .agg #[.bool nf, .slice Af lf cf] := hD64 3 _ (by kernel_rfl) rfl (by kernel_rfl)
     have hv67 : fr61 15 = .agg #[.bool nk, .slice Ak lk ck] := hD64 5 _ (by kernel_rfl) rfl (by kernel_rfl)
     have h68 := ((((hf.ext n3.ext).ext n8.ext).ext n13.ext).ext e62)
     have h69 := ((((hk.ext n3.ext).ext n8.ext).ext n13.ext).ext e62)
     refine id (oe_callf (vs := [.agg #[.bool nf, .slice Af lf cf], .agg #[.bool nk, .slice Ak lk ck]]) co99 (ar2 (T rfl hv66) (T rfl hv67)) (l1Mul_ok h68 h69 (by first | decide | omega) (by first | decide | omega)) ?_)
     rintro _ w75 ⟨nr70, A71, n72, c73, rfl, e76, h74⟩
     have E77 := below_ext E65 E65.size e76
     have lh74 := Num.len (by decide) h74
     exact ⟨e76, nr70, A71, n72, c73, rfl, h74⟩
   · refine .inr ⟨by kernel_rfl, ?_⟩
     intro fr79 w78 e80 hF81 hD82
     have E83 := below_ext E15 E15.size e80
     exact DV.oe (dv_fieldAddr (a := ⟨b6, 0, none⟩) (a' := ⟨b6, 4, none⟩) fo102_2 (T rfl (hF81 4 (by kernel_rfl))) rfl) ⟨Below.refl _ _, rfl⟩
   · refine .inr ⟨by kernel_rfl, ?_⟩
     intro fr85 w84 e86 hF87 hD88
     have E89 := below_ext E15 E15.size e86
     have hv90 : fr85 17 = .pointer (some ⟨b6, 4, none⟩) := hD88 7 _ (by kernel_rfl) rfl (by kernel_rfl)
     have H91 := (e86.blk H17)
     exact DV.oe (dv_loads (l := [.bool ng, .slice Ag lg cg]) agt100 sz100 (T rfl hv90) H91 rfl) ⟨Below.refl _ _, rfl⟩
   · refine .inr ⟨by kernel_rfl, ?_⟩
     intro fr93 w92 e94 hF95 hD96
     have E97 := below_ext E15 E15.size e94
     exact DV.oe (dv_fieldAddr (a := ⟨b11, 0, none⟩) (a' := ⟨b11, 2, none⟩) fo102_1 (T rfl (hF95 5 (by kernel_rfl))) rfl) ⟨Below.refl _ _, rfl⟩
   · refine .inr ⟨by kernel_rfl, ?_⟩
     intro fr99 w98 e100 hF101 hD102
     have E103 := below_ext E15 E15.size e100
     have hv104 : fr99 19 = .pointer (some ⟨b11, 2, none⟩) := hD102 9 _ (by kernel_rfl) rfl (by kernel_rfl)
     have H105 := (e100.blk n13.blk)
     exact DV.oe (dv_loads (l := [.bool nj, .slice Aj lj cj]) agt100 sz100 (T rfl hv104) H105 rfl) ⟨Below.refl _ _, rfl⟩
   · refine .inr ⟨by kernel_rfl, ?_⟩
     intro fr107 w106 e108 hF109 hD110
     have E111 := below_ext E15 E15.size e108
     have hv112 : fr107 18 = .agg #[.bool ng, .slice Ag lg cg] := hD110 8 _ (by kernel_rfl) rfl (by kernel_rfl)
     have hv113 : fr107 20 = .agg #[.bool nj, .slice Aj lj cj] := hD110 10 _ (by kernel_rfl) rfl (by kernel_rfl)
     have h114 := ((((hg.ext n3.ext).ext n8.ext).ext n13.ext).ext e108)
     have h115 := ((((hj.ext n3.ext).ext n8.ext).ext n13.ext).ext e108)
     refine id (oe_callf (vs := [.agg #[.bool ng, .slice Ag lg cg], .agg #[.bool nj, .slice Aj lj cj]]) co99 (ar2 (T rfl hv112) (T rfl hv113)) (l1Mul_ok h114 h115 (by first | decide | omega) (by first | decide | omega)) ?_)
     rintro _ w121 ⟨nr116, A117, n118, c119, rfl, e122, h120⟩
     have E123 := below_ext E111 E111.size e122
     have lh120 := Num.len (by decide) h120
     exact ⟨e122, nr116, A117, n118, c119, rfl, h120⟩
   · refine .inr ⟨by kernel_rfl, ?_⟩
     intro fr125 w124 e126 hF127 hD128
     have E129 := below_ext E15 E15.size e126
     obtain ⟨nr130, A131, n132, c133, hv134, hp135⟩ : ∃ (nr70 : Bool) (A71 : Option Addr) (n72 : Nat) (c73 : Nat), fr125 16 = .agg #[.bool nr70, .slice A71 n72 c73] ∧ Num 32 183 .u32 w124 nr70 A71 n72 c73 (q * ut) ((sq + st)) := hD128 6 _ (by kernel_rfl) rfl (by kernel_rfl)
     have lhp135 := Num.len (by decide) hp135
     obtain ⟨nr136, A137, n138, c139, hv140, hp141⟩ : ∃ (nr116 : Bool) (A117 : Option Addr) (n118 : Nat) (c119 : Nat), fr125 21 = .agg #[.bool nr116, .slice A117 n118 c119] ∧ Num 32 183 .u32 w124 nr116 A117 n118 c119 (r * yt) ((sr + se)) := hD128 11 _ (by kernel_rfl) rfl (by kernel_rfl)
     have lhp141 := Num.len (by decide) hp141
     refine id (oe_callf (vs := [.agg #[.bool nr130, .slice A131 n132 c133], .agg #[.bool nr136, .slice A137 n138 c139]]) co104 (ar2 (T rfl hv134) (T rfl hv140)) (l1Sub_ok hp135 hp141 (by first | decide | omega) (by first | decide | omega)) ?_)
     rintro _ w147 ⟨nr142, A143, n144, c145, rfl, e148, h146⟩
     have E149 := below_ext E129 E129.size e148
     have lh146 := Num.len (by decide) h146
     exact ⟨e148, nr142, A143, n144, c145, rfl, h146⟩
   · refine .inr ⟨by kernel_rfl, ?_⟩
     intro fr151 w150 e152 hF153 hD154
     have E155 := below_ext E15 E15.size e152
     have hv156 : fr151 11 = .agg #[.bool na, .slice Aa la ca] := hD154 1 _ (by kernel_rfl) rfl (by kernel_rfl)
     obtain ⟨nr157, A158, n159, c160, hv161, hp162⟩ : ∃ (nr142 : Bool) (A143 : Option Addr) (n144 : Nat) (c145 : Nat), fr151 22 = .agg #[.bool nr142, .slice A143 n144 c145] ∧ Num 32 183 .u32 w150 nr142 A143 n144 c145 ((q * ut) - (r * yt)) ((max (sq + st) (sr + se) + 1)) := hD154 12 _ (by kernel_rfl) rfl (by kernel_rfl)
     have lhp162 := Num.len (by decide) hp162
     have h163 := ((((ha.ext n3.ext).ext n8.ext).ext n13.ext).ext e152)
     refine id (oe_callf (vs := [.agg #[.bool na, .slice Aa la ca], .agg #[.bool nr157, .slice A158 n159 c160]]) co99 (ar2 (T rfl hv156) (T rfl hv161)) (l1Mul_ok h163 hp162 (by first | decide | omega) (by first | decide | omega)) ?_)
     rintro _ w169 ⟨nr164, A165, n166, c167, rfl, e170, h168⟩
     have E171 := below_ext E155 E155.size e170
     have lh168 := Num.len (by decide) h168
     exact ⟨e170, nr164, A165, n166, c167, rfl, h168⟩
   · exact .inl (.inr ⟨by kernel_rfl, fun _ _ => trivial⟩)
   · exact .inl (.inl (by kernel_rfl))
 · refine ⟨⟨⟨_, rfl, fun _ _ => oe_alloc ze100 fun b w hn => ⟨b, rfl, hn⟩⟩, ⟨_, rfl, ?_⟩⟩, trivial⟩
   · intro fr173 w172 b177 e174 hF175 hD176 hA178 hB179
     have E180 := below_ext E15 E15.size e174
     obtain ⟨nr181, A182, n183, c184, hv185, hp186⟩ : ∃ (nr164 : Bool) (A165 : Option Addr) (n166 : Nat) (c167 : Nat), fr173 23 = .agg #[.bool nr164, .slice A165 n166 c167] ∧ Num 32 183 .u32 w172 nr164 A165 n166 c167 (x * ((q * ut) - (r * yt))) ((sx + (max (sq + st) (sr + se) + 1))) := hD176 13 _ (by kernel_rfl) rfl (by kernel_rfl)
     have lhp186 := Num.len (by decide) hp186
     refine id (oe_store (v := .agg #[.bool nr181, .slice A182 n183 c184]) (vs := [.bool nr181, .slice A182 n183 c184]) (l := [.bool nr181, .slice A182 n183 c184]) (T rfl hA178) (T rfl hv185) sz100 rfl rfl rfl hB179 rfl ?_)
     intro w187 s188 H189
     exact ⟨s188, H189.trans (congrArg (fun v : Value => some (Obj.cells v.cells 100)) (show fr173 23 = _ from hv185).symm)⟩
 intro fr192 w191 e193 hF194 hP195 hM196 hN197
 have E198 := below_ext E15 E15.size e193
 obtain ⟨_, _, _, _, _, _, _, _, _, _, _, _, _, p199, _, _, _⟩ := hP195
 obtain ⟨nr200, A201, n202, c203, hv204, hp205⟩ : ∃ (nr164 : Bool) (A165 : Option Addr) (n166 : Nat) (c167 : Nat), fr192 23 = .agg #[.bool nr164, .slice A165 n166 c167] ∧ Num 32 183 .u32 w191 nr164 A165 n166 c167 (x * ((q * ut) - (r * yt))) ((sx + (max (sq + st) (sr + se) + 1))) := p199.resolve_left (nst (by kernel_rfl))
 have lhp205 := Num.len (by decide) hp205
 obtain ⟨⟨b206, hA207, hB208, hC209⟩, _⟩ := hM196
 have H210 : w191.heap[b206]? = some (.cells #[.bool nr200, .slice A201 n202 c203] 100) := hC209.trans (congrArg (fun v : Value => some (Obj.cells v.cells 100)) hv204)
 have N211 : w.heap.size ≤ b206 := by omega
 refine rk_seq ?_
 have H212 := (e193.blk H16)
 have : b1 < w191.heap.size := lt_of_blk H212
 have H213 := (e193.blk H17)
 have : b6 < w191.heap.size := lt_of_blk H213
 have H214 := (e193.blk n13.blk)
 have : b11 < w191.heap.size := lt_of_blk H214
 have : b206 < w191.heap.size := lt_of_blk H210
 have : w.heap.size ≤ w191.heap.size := E198.size
 refine rk_par2 [fun vq wq_ => vq = .pointer (some ⟨b1, 2, none⟩), fun vq wq_ => vq = .agg #[.bool nb, .slice Ab lb cb], fun vq wq_ => vq = .pointer (some ⟨b6, 0, none⟩), fun vq wq_ => vq = .agg #[.bool ne, .slice Ae le ce], fun vq wq_ => vq = .pointer (some ⟨b11, 4, none⟩), fun vq wq_ => vq = .agg #[.bool nk, .slice Ak lk ck], fun vq wq_ => ∃ (nr267 : Bool) (A268 : Option Addr) (n269 : Nat) (c270 : Nat), vq = .agg #[.bool nr267, .slice A268 n269 c270] ∧ Num 32 183 .u32 wq_ nr267 A268 n269 c270 (p * ut) ((sp + st)), fun vq wq_ => vq = .pointer (some ⟨b6, 4, none⟩), fun vq wq_ => vq = .agg #[.bool ng, .slice Ag lg cg], fun vq wq_ => vq = .pointer (some ⟨b11, 0, none⟩), fun vq wq_ => vq = .agg #[.bool ni, .slice Ai li ci], fun vq wq_ => ∃ (nr313 : Bool) (A314 : Option Addr) (n315 : Nat) (c316 : Nat), vq = .agg #[.bool nr313, .slice A314 n315 c316] ∧ Num 32 183 .u32 wq_ nr313 A314 n315 c316 (r * xt) ((sr + sd)), fun vq wq_ => ∃ (nr339 : Bool) (A340 : Option Addr) (n341 : Nat) (c342 : Nat), vq = .agg #[.bool nr339, .slice A340 n341 c342] ∧ Num 32 183 .u32 wq_ nr339 A340 n341 c342 ((p * ut) - (r * xt)) ((max (sp + st) (sr + sd) + 1)), fun vq wq_ => ∃ (nr361 : Bool) (A362 : Option Addr) (n363 : Nat) (c364 : Nat), vq = .agg #[.bool nr361, .slice A362 n363 c364] ∧ Num 32 183 .u32 wq_ nr361 A362 n363 c364 (y * ((p * ut) - (r * xt))) ((sy + (max (sp + st) (sr + sd) + 1))), fun _ _ => True, fun _ _ => True] [⟨14, 15, 13, 100, #[.bool false, .slice none 0 0]⟩] [100] mo (by kernel_rfl) (by kernel_rfl) ?_ ?_ ?_ ?_ ?_
 · intro e he e2 he2 h; simp only [List.mem_cons, List.not_mem_nil, or_false] at he he2; rcases he with rfl <;> rcases he2 with rfl <;> first | rfl | exact absurd h (by decide)
 · exact ⟨⟨fun v w w2 e h => h, fun v w w2 b cs T fz s hb hT h => h⟩, ⟨fun v w w2 e h => h, fun v w w2 b cs T fz s hb hT h => h⟩, ⟨fun v w w2 e h => h, fun v w w2 b cs T fz s hb hT h => h⟩, ⟨fun v w w2 e h => h, fun v w w2 b cs T fz s hb hT h => h⟩, ⟨fun v w w2 e h => h, fun v w w2 b cs T fz s hb hT h => h⟩, ⟨fun v w w2 e h => h, fun v w w2 b cs T fz s hb hT h => h⟩, ⟨fun v w w2 e ⟨nr267, A268, n269, c270, hv, h0_⟩ => ⟨nr267, A268, n269, c270, hv, h0_.ext e⟩, fun v w w2 b cs T fz s hb hT ⟨nr267, A268, n269, c270, hv, h0_⟩ => ⟨nr267, A268, n269, c270, hv, h0_.st s hb (ts_ne hT (by decide))⟩⟩, ⟨fun v w w2 e h => h, fun v w w2 b cs T fz s hb hT h => h⟩, ⟨fun v w w2 e h => h, fun v w w2 b cs T fz s hb hT h => h⟩, ⟨fun v w w2 e h => h, fun v w w2 b cs T fz s hb hT h => h⟩, ⟨fun v w w2 e h => h, fun v w w2 b cs T fz s hb hT h => h⟩, ⟨fun v w w2 e ⟨nr313, A314, n315, c316, hv, h0_⟩ => ⟨nr313, A314, n315, c316, hv, h0_.ext e⟩, fun v w w2 b cs T fz s hb hT ⟨nr313, A314, n315, c316, hv, h0_⟩ => ⟨nr313, A314, n315, c316, hv, h0_.st s hb (ts_ne hT (by decide))⟩⟩, ⟨fun v w w2 e ⟨nr339, A340, n341, c342, hv, h0_⟩ => ⟨nr339, A340, n341, c342, hv, h0_.ext e⟩, fun v w w2 b cs T fz s hb hT ⟨nr339, A340, n341, c342, hv, h0_⟩ => ⟨nr339, A340, n341, c342, hv, h0_.st s hb (ts_ne hT (by decide))⟩⟩, ⟨fun v w w2 e ⟨nr361, A362, n363, c364, hv, h0_⟩ => ⟨nr361, A362, n363, c364, hv, h0_.ext e⟩, fun v w w2 b cs T fz s hb hT ⟨nr361, A362, n363, c364, hv, h0_⟩ => ⟨nr361, A362, n363, c364, hv, h0_.st s hb (ts_ne hT (by decide))⟩⟩, ⟨fun v w w2 e h => h, fun v w w2 b cs T fz s hb hT h => h⟩, ⟨fun v w w2 e h => h, fun v w w2 b cs T fz s hb hT h => h⟩, trivial⟩
 · refine ⟨?_, ?_, ?_, ?_, ?_, ?_, ?_, ?_, ?_, ?_, ?_, ?_, ?_, ?_, ?_, ?_, trivial⟩
   · refine .inr ⟨by kernel_rfl, ?_⟩
     intro fr216 w215 e217 hF218 hD219
     have E220 := below_ext E198 E198.size e217
     exact DV.oe (dv_fieldAddr (a := ⟨b1, 0, none⟩) (a' := ⟨b1, 2, none⟩) fo102_1 (T rfl ((hF218 3 (by kernel_rfl)).trans (hF194 3 rfl))) rfl) ⟨Below.refl _ _, rfl⟩
   · refine .inr ⟨by kernel_rfl, ?_⟩
     intro fr222 w221 e223 hF224 hD225
     have E226 := below_ext E198 E198.size e223
     have hv227 : fr222 24 = .pointer (some ⟨b1, 2, none⟩) := hD225 0 _ (by kernel_rfl) rfl (by kernel_rfl)
     have H228 := (e223.blk H212)
     exact DV.oe (dv_loads (l := [.bool nb, .slice Ab lb cb]) agt100 sz100 (T rfl hv227) H228 rfl) ⟨Below.refl _ _, rfl⟩
   · refine .inr ⟨by kernel_rfl, ?_⟩
     intro fr230 w229 e231 hF232 hD233
     have E234 := below_ext E198 E198.size e231
     exact DV.oe (dv_fieldAddr (a := ⟨b6, 0, none⟩) (a' := ⟨b6, 0, none⟩) fo102_0 (T rfl ((hF232 4 (by kernel_rfl)).trans (hF194 4 rfl))) rfl) ⟨Below.refl _ _, rfl⟩
   · refine .inr ⟨by kernel_rfl, ?_⟩
     intro fr236 w235 e237 hF238 hD239
     have E240 := below_ext E198 E198.size e237
     have hv241 : fr236 26 = .pointer (some ⟨b6, 0, none⟩) := hD239 2 _ (by kernel_rfl) rfl (by kernel_rfl)
     have H242 := (e237.blk H213)
     exact DV.oe (dv_loads (l := [.bool ne, .slice Ae le ce]) agt100 sz100 (T rfl hv241) H242 rfl) ⟨Below.refl _ _, rfl⟩
   · refine .inr ⟨by kernel_rfl, ?_⟩
     intro fr244 w243 e245 hF246 hD247
     have E248 := below_ext E198 E198.size e245
     exact DV.oe (dv_fieldAddr (a := ⟨b11, 0, none⟩) (a' := ⟨b11, 4, none⟩) fo102_2 (T rfl ((hF246 5 (by kernel_rfl)).trans (hF194 5 rfl))) rfl) ⟨Below.refl _ _, rfl⟩
   · refine .inr ⟨by kernel_rfl, ?_⟩
     intro fr250 w249 e251 hF252 hD253
     have E254 := below_ext E198 E198.size e251
     have hv255 : fr250 28 = .pointer (some ⟨b11, 4, none⟩) := hD253 4 _ (by kernel_rfl) rfl (by kernel_rfl)
     have H256 := (e251.blk H214)
     exact DV.oe (dv_loads (l := [.bool nk, .slice Ak lk ck]) agt100 sz100 (T rfl hv255) H256 rfl) ⟨Below.refl _ _, rfl⟩
   · refine .inr ⟨by kernel_rfl, ?_⟩
     intro fr258 w257 e259 hF260 hD261
     have E262 := below_ext E198 E198.size e259
     have hv263 : fr258 27 = .agg #[.bool ne, .slice Ae le ce] := hD261 3 _ (by kernel_rfl) rfl (by kernel_rfl)
     have hv264 : fr258 29 = .agg #[.bool nk, .slice Ak lk ck] := hD261 5 _ (by kernel_rfl) rfl (by kernel_rfl)
     have h265 := (((((he.ext n3.ext).ext n8.ext).ext n13.ext).ext e193).ext e259)
     have h266 := (((((hk.ext n3.ext).ext n8.ext).ext n13.ext).ext e193).ext e259)
     refine id (oe_callf (vs := [.agg #[.bool ne, .slice Ae le ce], .agg #[.bool nk, .slice Ak lk ck]]) co99 (ar2 (T rfl hv263) (T rfl hv264)) (l1Mul_ok h265 h266 (by first | decide | omega) (by first | decide | omega)) ?_)
     rintro _ w272 ⟨nr267, A268, n269, c270, rfl, e273, h271⟩
     have E274 := below_ext E262 E262.size e273
     have lh271 := Num.len (by decide) h271
     exact ⟨e273, nr267, A268, n269, c270, rfl, h271⟩
   · refine .inr ⟨by kernel_rfl, ?_⟩
     intro fr276 w275 e277 hF278 hD279
     have E280 := below_ext E198 E198.size e277
     exact DV.oe (dv_fieldAddr (a := ⟨b6, 0, none⟩) (a' := ⟨b6, 4, none⟩) fo102_2 (T rfl ((hF278 4 (by kernel_rfl)).trans (hF194 4 rfl))) rfl) ⟨Below.refl _ _, rfl⟩
   · refine .inr ⟨by kernel_rfl, ?_⟩
     intro fr282 w281 e283 hF284 hD285
     have E286 := below_ext E198 E198.size e283
     have hv287 : fr282 31 = .pointer (some ⟨b6, 4, none⟩) := hD285 7 _ (by kernel_rfl) rfl (by kernel_rfl)
     have H288 := (e283.blk H213)
     exact DV.oe (dv_loads (l := [.bool ng, .slice Ag lg cg]) agt100 sz100 (T rfl hv287) H288 rfl) ⟨Below.refl _ _, rfl⟩
   · refine .inr ⟨by kernel_rfl, ?_⟩
     intro fr290 w289 e291 hF292 hD293
     have E294 := below_ext E198 E198.size e291
     exact DV.oe (dv_fieldAddr (a := ⟨b11, 0, none⟩) (a' := ⟨b11, 0, none⟩) fo102_0 (T rfl ((hF292 5 (by kernel_rfl)).trans (hF194 5 rfl))) rfl) ⟨Below.refl _ _, rfl⟩
   · refine .inr ⟨by kernel_rfl, ?_⟩
     intro fr296 w295 e297 hF298 hD299
     have E300 := below_ext E198 E198.size e297
     have hv301 : fr296 33 = .pointer (some ⟨b11, 0, none⟩) := hD299 9 _ (by kernel_rfl) rfl (by kernel_rfl)
     have H302 := (e297.blk H214)
     exact DV.oe (dv_loads (l := [.bool ni, .slice Ai li ci]) agt100 sz100 (T rfl hv301) H302 rfl) ⟨Below.refl _ _, rfl⟩
   · refine .inr ⟨by kernel_rfl, ?_⟩
     intro fr304 w303 e305 hF306 hD307
     have E308 := below_ext E198 E198.size e305
     have hv309 : fr304 32 = .agg #[.bool ng, .slice Ag lg cg] := hD307 8 _ (by kernel_rfl) rfl (by kernel_rfl)
     have hv310 : fr304 34 = .agg #[.bool ni, .slice Ai li ci] := hD307 10 _ (by kernel_rfl) rfl (by kernel_rfl)
     have h311 := (((((hg.ext n3.ext).ext n8.ext).ext n13.ext).ext e193).ext e305)
     have h312 := (((((hi.ext n3.ext).ext n8.ext).ext n13.ext).ext e193).ext e305)
     refine id (oe_callf (vs := [.agg #[.bool ng, .slice Ag lg cg], .agg #[.bool ni, .slice Ai li ci]]) co99 (ar2 (T rfl hv309) (T rfl hv310)) (l1Mul_ok h311 h312 (by first | decide | omega) (by first | decide | omega)) ?_)
     rintro _ w318 ⟨nr313, A314, n315, c316, rfl, e319, h317⟩
     have E320 := below_ext E308 E308.size e319
     have lh317 := Num.len (by decide) h317
     exact ⟨e319, nr313, A314, n315, c316, rfl, h317⟩
   · refine .inr ⟨by kernel_rfl, ?_⟩
     intro fr322 w321 e323 hF324 hD325
     have E326 := below_ext E198 E198.size e323
     obtain ⟨nr327, A328, n329, c330, hv331, hp332⟩ : ∃ (nr267 : Bool) (A268 : Option Addr) (n269 : Nat) (c270 : Nat), fr322 30 = .agg #[.bool nr267, .slice A268 n269 c270] ∧ Num 32 183 .u32 w321 nr267 A268 n269 c270 (p * ut) ((sp + st)) := hD325 6 _ (by kernel_rfl) rfl (by kernel_rfl)
     have lhp332 := Num.len (by decide) hp332
     obtain ⟨nr333, A334, n335, c336, hv337, hp338⟩ : ∃ (nr313 : Bool) (A314 : Option Addr) (n315 : Nat) (c316 : Nat), fr322 35 = .agg #[.bool nr313, .slice A314 n315 c316] ∧ Num 32 183 .u32 w321 nr313 A314 n315 c316 (r * xt) ((sr + sd)) := hD325 11 _ (by kernel_rfl) rfl (by kernel_rfl)
     have lhp338 := Num.len (by decide) hp338
     refine id (oe_callf (vs := [.agg #[.bool nr327, .slice A328 n329 c330], .agg #[.bool nr333, .slice A334 n335 c336]]) co104 (ar2 (T rfl hv331) (T rfl hv337)) (l1Sub_ok hp332 hp338 (by first | decide | omega) (by first | decide | omega)) ?_)
     rintro _ w344 ⟨nr339, A340, n341, c342, rfl, e345, h343⟩
     have E346 := below_ext E326 E326.size e345
     have lh343 := Num.len (by decide) h343
     exact ⟨e345, nr339, A340, n341, c342, rfl, h343⟩
   · refine .inr ⟨by kernel_rfl, ?_⟩
     intro fr348 w347 e349 hF350 hD351
     have E352 := below_ext E198 E198.size e349
     have hv353 : fr348 25 = .agg #[.bool nb, .slice Ab lb cb] := hD351 1 _ (by kernel_rfl) rfl (by kernel_rfl)
     obtain ⟨nr354, A355, n356, c357, hv358, hp359⟩ : ∃ (nr339 : Bool) (A340 : Option Addr) (n341 : Nat) (c342 : Nat), fr348 36 = .agg #[.bool nr339, .slice A340 n341 c342] ∧ Num 32 183 .u32 w347 nr339 A340 n341 c342 ((p * ut) - (r * xt)) ((max (sp + st) (sr + sd) + 1)) := hD351 12 _ (by kernel_rfl) rfl (by kernel_rfl)
     have lhp359 := Num.len (by decide) hp359
     have h360 := (((((hb.ext n3.ext).ext n8.ext).ext n13.ext).ext e193).ext e349)
     refine id (oe_callf (vs := [.agg #[.bool nb, .slice Ab lb cb], .agg #[.bool nr354, .slice A355 n356 c357]]) co99 (ar2 (T rfl hv353) (T rfl hv358)) (l1Mul_ok h360 hp359 (by first | decide | omega) (by first | decide | omega)) ?_)
     rintro _ w366 ⟨nr361, A362, n363, c364, rfl, e367, h365⟩
     have E368 := below_ext E352 E352.size e367
     have lh365 := Num.len (by decide) h365
     exact ⟨e367, nr361, A362, n363, c364, rfl, h365⟩
   · exact .inl (.inr ⟨by kernel_rfl, fun _ _ => trivial⟩)
   · exact .inl (.inl (by kernel_rfl))
 · refine ⟨⟨⟨_, rfl, fun _ _ => oe_alloc ze100 fun b w hn => ⟨b, rfl, hn⟩⟩, ⟨_, rfl, ?_⟩⟩, trivial⟩
   · intro fr370 w369 b374 e371 hF372 hD373 hA375 hB376
     have E377 := below_ext E198 E198.size e371
     obtain ⟨nr378, A379, n380, c381, hv382, hp383⟩ : ∃ (nr361 : Bool) (A362 : Option Addr) (n363 : Nat) (c364 : Nat), fr370 37 = .agg #[.bool nr361, .slice A362 n363 c364] ∧ Num 32 183 .u32 w369 nr361 A362 n363 c364 (y * ((p * ut) - (r * xt))) ((sy + (max (sp + st) (sr + sd) + 1))) := hD373 13 _ (by kernel_rfl) rfl (by kernel_rfl)
     have lhp383 := Num.len (by decide) hp383
     refine id (oe_store (v := .agg #[.bool nr378, .slice A379 n380 c381]) (vs := [.bool nr378, .slice A379 n380 c381]) (l := [.bool nr378, .slice A379 n380 c381]) (T rfl hA375) (T rfl hv382) sz100 rfl rfl rfl hB376 rfl ?_)
     intro w384 s385 H386
     exact ⟨s385, H386.trans (congrArg (fun v : Value => some (Obj.cells v.cells 100)) (show fr370 37 = _ from hv382).symm)⟩
 intro fr389 w388 e390 hF391 hP392 hM393 hN394
 have E395 := below_ext E198 E198.size e390
 obtain ⟨_, _, _, _, _, _, _, _, _, _, _, _, _, p396, _, _, _⟩ := hP392
 obtain ⟨nr397, A398, n399, c400, hv401, hp402⟩ : ∃ (nr361 : Bool) (A362 : Option Addr) (n363 : Nat) (c364 : Nat), fr389 37 = .agg #[.bool nr361, .slice A362 n363 c364] ∧ Num 32 183 .u32 w388 nr361 A362 n363 c364 (y * ((p * ut) - (r * xt))) ((sy + (max (sp + st) (sr + sd) + 1))) := p396.resolve_left (nst (by kernel_rfl))
 have lhp402 := Num.len (by decide) hp402
 obtain ⟨⟨b403, hA404, hB405, hC406⟩, _⟩ := hM393
 have H407 : w388.heap[b403]? = some (.cells #[.bool nr397, .slice A398 n399 c400] 100) := hC406.trans (congrArg (fun v : Value => some (Obj.cells v.cells 100)) hv401)
 have N408 : w.heap.size ≤ b403 := by omega
 refine rk_seq ?_
 have H409 := (e390.blk H212)
 have : b1 < w388.heap.size := lt_of_blk H409
 have H410 := (e390.blk H213)
 have : b6 < w388.heap.size := lt_of_blk H410
 have H411 := (e390.blk H214)
 have : b11 < w388.heap.size := lt_of_blk H411
 have H412 := (e390.blk H210)
 have : b206 < w388.heap.size := lt_of_blk H412
 have : b403 < w388.heap.size := lt_of_blk H407
 have : w.heap.size ≤ w388.heap.size := E395.size
 refine rk_par2 [fun vq wq_ => vq = .pointer (some ⟨b1, 4, none⟩), fun vq wq_ => vq = .agg #[.bool nm, .slice Am lm cm], fun vq wq_ => vq = .pointer (some ⟨b6, 0, none⟩), fun vq wq_ => vq = .agg #[.bool ne, .slice Ae le ce], fun vq wq_ => vq = .pointer (some ⟨b11, 2, none⟩), fun vq wq_ => vq = .agg #[.bool nj, .slice Aj lj cj], fun vq wq_ => ∃ (nr465 : Bool) (A466 : Option Addr) (n467 : Nat) (c468 : Nat), vq = .agg #[.bool nr465, .slice A466 n467 c468] ∧ Num 32 183 .u32 wq_ nr465 A466 n467 c468 (p * yt) ((sp + se)), fun vq wq_ => vq = .pointer (some ⟨b6, 2, none⟩), fun vq wq_ => vq = .agg #[.bool nf, .slice Af lf cf], fun vq wq_ => vq = .pointer (some ⟨b11, 0, none⟩), fun vq wq_ => vq = .agg #[.bool ni, .slice Ai li ci], fun vq wq_ => ∃ (nr511 : Bool) (A512 : Option Addr) (n513 : Nat) (c514 : Nat), vq = .agg #[.bool nr511, .slice A512 n513 c514] ∧ Num 32 183 .u32 wq_ nr511 A512 n513 c514 (q * xt) ((sq + sd)), fun vq wq_ => ∃ (nr537 : Bool) (A538 : Option Addr) (n539 : Nat) (c540 : Nat), vq = .agg #[.bool nr537, .slice A538 n539 c540] ∧ Num 32 183 .u32 wq_ nr537 A538 n539 c540 ((p * yt) - (q * xt)) ((max (sp + se) (sq + sd) + 1)), fun vq wq_ => ∃ (nr559 : Bool) (A560 : Option Addr) (n561 : Nat) (c562 : Nat), vq = .agg #[.bool nr559, .slice A560 n561 c562] ∧ Num 32 183 .u32 wq_ nr559 A560 n561 c562 (u * ((p * yt) - (q * xt))) ((su + (max (sp + se) (sq + sd) + 1))), fun _ _ => True, fun _ _ => True] [⟨14, 15, 13, 100, #[.bool false, .slice none 0 0]⟩] [100] mo (by kernel_rfl) (by kernel_rfl) ?_ ?_ ?_ ?_ ?_
 · intro e he e2 he2 h; simp only [List.mem_cons, List.not_mem_nil, or_false] at he he2; rcases he with rfl <;> rcases he2 with rfl <;> first | rfl | exact absurd h (by decide)
 · exact ⟨⟨fun v w w2 e h => h, fun v w w2 b cs T fz s hb hT h => h⟩, ⟨fun v w w2 e h => h, fun v w w2 b cs T fz s hb hT h => h⟩, ⟨fun v w w2 e h => h, fun v w w2 b cs T fz s hb hT h => h⟩, ⟨fun v w w2 e h => h, fun v w w2 b cs T fz s hb hT h => h⟩, ⟨fun v w w2 e h => h, fun v w w2 b cs T fz s hb hT h => h⟩, ⟨fun v w w2 e h => h, fun v w w2 b cs T fz s hb hT h => h⟩, ⟨fun v w w2 e ⟨nr465, A466, n467, c468, hv, h0_⟩ => ⟨nr465, A466, n467, c468, hv, h0_.ext e⟩, fun v w w2 b cs T fz s hb hT ⟨nr465, A466, n467, c468, hv, h0_⟩ => ⟨nr465, A466, n467, c468, hv, h0_.st s hb (ts_ne hT (by decide))⟩⟩, ⟨fun v w w2 e h => h, fun v w w2 b cs T fz s hb hT h => h⟩, ⟨fun v w w2 e h => h, fun v w w2 b cs T fz s hb hT h => h⟩, ⟨fun v w w2 e h => h, fun v w w2 b cs T fz s hb hT h => h⟩, ⟨fun v w w2 e h => h, fun v w w2 b cs T fz s hb hT h => h⟩, ⟨fun v w w2 e ⟨nr511, A512, n513, c514, hv, h0_⟩ => ⟨nr511, A512, n513, c514, hv, h0_.ext e⟩, fun v w w2 b cs T fz s hb hT ⟨nr511, A512, n513, c514, hv, h0_⟩ => ⟨nr511, A512, n513, c514, hv, h0_.st s hb (ts_ne hT (by decide))⟩⟩, ⟨fun v w w2 e ⟨nr537, A538, n539, c540, hv, h0_⟩ => ⟨nr537, A538, n539, c540, hv, h0_.ext e⟩, fun v w w2 b cs T fz s hb hT ⟨nr537, A538, n539, c540, hv, h0_⟩ => ⟨nr537, A538, n539, c540, hv, h0_.st s hb (ts_ne hT (by decide))⟩⟩, ⟨fun v w w2 e ⟨nr559, A560, n561, c562, hv, h0_⟩ => ⟨nr559, A560, n561, c562, hv, h0_.ext e⟩, fun v w w2 b cs T fz s hb hT ⟨nr559, A560, n561, c562, hv, h0_⟩ => ⟨nr559, A560, n561, c562, hv, h0_.st s hb (ts_ne hT (by decide))⟩⟩, ⟨fun v w w2 e h => h, fun v w w2 b cs T fz s hb hT h => h⟩, ⟨fun v w w2 e h => h, fun v w w2 b cs T fz s hb hT h => h⟩, trivial⟩
 · refine ⟨?_, ?_, ?_, ?_, ?_, ?_, ?_, ?_, ?_, ?_, ?_, ?_, ?_, ?_, ?_, ?_, trivial⟩
   · refine .inr ⟨by kernel_rfl, ?_⟩
     intro fr414 w413 e415 hF416 hD417
     have E418 := below_ext E395 E395.size e415
     exact DV.oe (dv_fieldAddr (a := ⟨b1, 0, none⟩) (a' := ⟨b1, 4, none⟩) fo102_2 (T rfl ((hF416 3 (by kernel_rfl)).trans ((hF391 3 rfl).trans (hF194 3 rfl)))) rfl) ⟨Below.refl _ _, rfl⟩
   · refine .inr ⟨by kernel_rfl, ?_⟩
     intro fr420 w419 e421 hF422 hD423
     have E424 := below_ext E395 E395.size e421
     have hv425 : fr420 38 = .pointer (some ⟨b1, 4, none⟩) := hD423 0 _ (by kernel_rfl) rfl (by kernel_rfl)
     have H426 := (e421.blk H409)
     exact DV.oe (dv_loads (l := [.bool nm, .slice Am lm cm]) agt100 sz100 (T rfl hv425) H426 rfl) ⟨Below.refl _ _, rfl⟩
   · refine .inr ⟨by kernel_rfl, ?_⟩
     intro fr428 w427 e429 hF430 hD431
     have E432 := below_ext E395 E395.size e429
     exact DV.oe (dv_fieldAddr (a := ⟨b6, 0, none⟩) (a' := ⟨b6, 0, none⟩) fo102_0 (T rfl ((hF430 4 (by kernel_rfl)).trans ((hF391 4 rfl).trans (hF194 4 rfl)))) rfl) ⟨Below.refl _ _, rfl⟩
   · refine .inr ⟨by kernel_rfl, ?_⟩
     intro fr434 w433 e435 hF436 hD437
     have E438 := below_ext E395 E395.size e435
     have hv439 : fr434 40 = .pointer (some ⟨b6, 0, none⟩) := hD437 2 _ (by kernel_rfl) rfl (by kernel_rfl)
     have H440 := (e435.blk H410)
     exact DV.oe (dv_loads (l := [.bool ne, .slice Ae le ce]) agt100 sz100 (T rfl hv439) H440 rfl) ⟨Below.refl _ _, rfl⟩
   · refine .inr ⟨by kernel_rfl, ?_⟩
     intro fr442 w441 e443 hF444 hD445
     have E446 := below_ext E395 E395.size e443
     exact DV.oe (dv_fieldAddr (a := ⟨b11, 0, none⟩) (a' := ⟨b11, 2, none⟩) fo102_1 (T rfl ((hF444 5 (by kernel_rfl)).trans ((hF391 5 rfl).trans (hF194 5 rfl)))) rfl) ⟨Below.refl _ _, rfl⟩
   · refine .inr ⟨by kernel_rfl, ?_⟩
     intro fr448 w447 e449 hF450 hD451
     have E452 := below_ext E395 E395.size e449
     have hv453 : fr448 42 = .pointer (some ⟨b11, 2, none⟩) := hD451 4 _ (by kernel_rfl) rfl (by kernel_rfl)
     have H454 := (e449.blk H411)
     exact DV.oe (dv_loads (l := [.bool nj, .slice Aj lj cj]) agt100 sz100 (T rfl hv453) H454 rfl) ⟨Below.refl _ _, rfl⟩
   · refine .inr ⟨by kernel_rfl, ?_⟩
     intro fr456 w455 e457 hF458 hD459
     have E460 := below_ext E395 E395.size e457
     have hv461 : fr456 41 = .agg #[.bool ne, .slice Ae le ce] := hD459 3 _ (by kernel_rfl) rfl (by kernel_rfl)
     have hv462 : fr456 43 = .agg #[.bool nj, .slice Aj lj cj] := hD459 5 _ (by kernel_rfl) rfl (by kernel_rfl)
     have h463 := ((((((he.ext n3.ext).ext n8.ext).ext n13.ext).ext e193).ext e390).ext e457)
     have h464 := ((((((hj.ext n3.ext).ext n8.ext).ext n13.ext).ext e193).ext e390).ext e457)
     refine id (oe_callf (vs := [.agg #[.bool ne, .slice Ae le ce], .agg #[.bool nj, .slice Aj lj cj]]) co99 (ar2 (T rfl hv461) (T rfl hv462)) (l1Mul_ok h463 h464 (by first | decide | omega) (by first | decide | omega)) ?_)
     rintro _ w470 ⟨nr465, A466, n467, c468, rfl, e471, h469⟩
     have E472 := below_ext E460 E460.size e471
     have lh469 := Num.len (by decide) h469
     exact ⟨e471, nr465, A466, n467, c468, rfl, h469⟩
   · refine .inr ⟨by kernel_rfl, ?_⟩
     intro fr474 w473 e475 hF476 hD477
     have E478 := below_ext E395 E395.size e475
     exact DV.oe (dv_fieldAddr (a := ⟨b6, 0, none⟩) (a' := ⟨b6, 2, none⟩) fo102_1 (T rfl ((hF476 4 (by kernel_rfl)).trans ((hF391 4 rfl).trans (hF194 4 rfl)))) rfl) ⟨Below.refl _ _, rfl⟩
   · refine .inr ⟨by kernel_rfl, ?_⟩
     intro fr480 w479 e481 hF482 hD483
     have E484 := below_ext E395 E395.size e481
     have hv485 : fr480 45 = .pointer (some ⟨b6, 2, none⟩) := hD483 7 _ (by kernel_rfl) rfl (by kernel_rfl)
     have H486 := (e481.blk H410)
     exact DV.oe (dv_loads (l := [.bool nf, .slice Af lf cf]) agt100 sz100 (T rfl hv485) H486 rfl) ⟨Below.refl _ _, rfl⟩
   · refine .inr ⟨by kernel_rfl, ?_⟩
     intro fr488 w487 e489 hF490 hD491
     have E492 := below_ext E395 E395.size e489
     exact DV.oe (dv_fieldAddr (a := ⟨b11, 0, none⟩) (a' := ⟨b11, 0, none⟩) fo102_0 (T rfl ((hF490 5 (by kernel_rfl)).trans ((hF391 5 rfl).trans (hF194 5 rfl)))) rfl) ⟨Below.refl _ _, rfl⟩
   · refine .inr ⟨by kernel_rfl, ?_⟩
     intro fr494 w493 e495 hF496 hD497
     have E498 := below_ext E395 E395.size e495
     have hv499 : fr494 47 = .pointer (some ⟨b11, 0, none⟩) := hD497 9 _ (by kernel_rfl) rfl (by kernel_rfl)
     have H500 := (e495.blk H411)
     exact DV.oe (dv_loads (l := [.bool ni, .slice Ai li ci]) agt100 sz100 (T rfl hv499) H500 rfl) ⟨Below.refl _ _, rfl⟩
   · refine .inr ⟨by kernel_rfl, ?_⟩
     intro fr502 w501 e503 hF504 hD505
     have E506 := below_ext E395 E395.size e503
     have hv507 : fr502 46 = .agg #[.bool nf, .slice Af lf cf] := hD505 8 _ (by kernel_rfl) rfl (by kernel_rfl)
     have hv508 : fr502 48 = .agg #[.bool ni, .slice Ai li ci] := hD505 10 _ (by kernel_rfl) rfl (by kernel_rfl)
     have h509 := ((((((hf.ext n3.ext).ext n8.ext).ext n13.ext).ext e193).ext e390).ext e503)
     have h510 := ((((((hi.ext n3.ext).ext n8.ext).ext n13.ext).ext e193).ext e390).ext e503)
     refine id (oe_callf (vs := [.agg #[.bool nf, .slice Af lf cf], .agg #[.bool ni, .slice Ai li ci]]) co99 (ar2 (T rfl hv507) (T rfl hv508)) (l1Mul_ok h509 h510 (by first | decide | omega) (by first | decide | omega)) ?_)
     rintro _ w516 ⟨nr511, A512, n513, c514, rfl, e517, h515⟩
     have E518 := below_ext E506 E506.size e517
     have lh515 := Num.len (by decide) h515
     exact ⟨e517, nr511, A512, n513, c514, rfl, h515⟩
   · refine .inr ⟨by kernel_rfl, ?_⟩
     intro fr520 w519 e521 hF522 hD523
     have E524 := below_ext E395 E395.size e521
     obtain ⟨nr525, A526, n527, c528, hv529, hp530⟩ : ∃ (nr465 : Bool) (A466 : Option Addr) (n467 : Nat) (c468 : Nat), fr520 44 = .agg #[.bool nr465, .slice A466 n467 c468] ∧ Num 32 183 .u32 w519 nr465 A466 n467 c468 (p * yt) ((sp + se)) := hD523 6 _ (by kernel_rfl) rfl (by kernel_rfl)
     have lhp530 := Num.len (by decide) hp530
     obtain ⟨nr531, A532, n533, c534, hv535, hp536⟩ : ∃ (nr511 : Bool) (A512 : Option Addr) (n513 : Nat) (c514 : Nat), fr520 49 = .agg #[.bool nr511, .slice A512 n513 c514] ∧ Num 32 183 .u32 w519 nr511 A512 n513 c514 (q * xt) ((sq + sd)) := hD523 11 _ (by kernel_rfl) rfl (by kernel_rfl)
     have lhp536 := Num.len (by decide) hp536
     refine id (oe_callf (vs := [.agg #[.bool nr525, .slice A526 n527 c528], .agg #[.bool nr531, .slice A532 n533 c534]]) co104 (ar2 (T rfl hv529) (T rfl hv535)) (l1Sub_ok hp530 hp536 (by first | decide | omega) (by first | decide | omega)) ?_)
     rintro _ w542 ⟨nr537, A538, n539, c540, rfl, e543, h541⟩
     have E544 := below_ext E524 E524.size e543
     have lh541 := Num.len (by decide) h541
     exact ⟨e543, nr537, A538, n539, c540, rfl, h541⟩
   · refine .inr ⟨by kernel_rfl, ?_⟩
     intro fr546 w545 e547 hF548 hD549
     have E550 := below_ext E395 E395.size e547
     have hv551 : fr546 39 = .agg #[.bool nm, .slice Am lm cm] := hD549 1 _ (by kernel_rfl) rfl (by kernel_rfl)
     obtain ⟨nr552, A553, n554, c555, hv556, hp557⟩ : ∃ (nr537 : Bool) (A538 : Option Addr) (n539 : Nat) (c540 : Nat), fr546 50 = .agg #[.bool nr537, .slice A538 n539 c540] ∧ Num 32 183 .u32 w545 nr537 A538 n539 c540 ((p * yt) - (q * xt)) ((max (sp + se) (sq + sd) + 1)) := hD549 12 _ (by kernel_rfl) rfl (by kernel_rfl)
     have lhp557 := Num.len (by decide) hp557
     have h558 := ((((((hm.ext n3.ext).ext n8.ext).ext n13.ext).ext e193).ext e390).ext e547)
     refine id (oe_callf (vs := [.agg #[.bool nm, .slice Am lm cm], .agg #[.bool nr552, .slice A553 n554 c555]]) co99 (ar2 (T rfl hv551) (T rfl hv556)) (l1Mul_ok h558 hp557 (by first | decide | omega) (by first | decide | omega)) ?_)
     rintro _ w564 ⟨nr559, A560, n561, c562, rfl, e565, h563⟩
     have E566 := below_ext E550 E550.size e565
     have lh563 := Num.len (by decide) h563
     exact ⟨e565, nr559, A560, n561, c562, rfl, h563⟩
   · exact .inl (.inr ⟨by kernel_rfl, fun _ _ => trivial⟩)
   · exact .inl (.inl (by kernel_rfl))
 · refine ⟨⟨⟨_, rfl, fun _ _ => oe_alloc ze100 fun b w hn => ⟨b, rfl, hn⟩⟩, ⟨_, rfl, ?_⟩⟩, trivial⟩
   · intro fr568 w567 b572 e569 hF570 hD571 hA573 hB574
     have E575 := below_ext E395 E395.size e569
     obtain ⟨nr576, A577, n578, c579, hv580, hp581⟩ : ∃ (nr559 : Bool) (A560 : Option Addr) (n561 : Nat) (c562 : Nat), fr568 51 = .agg #[.bool nr559, .slice A560 n561 c562] ∧ Num 32 183 .u32 w567 nr559 A560 n561 c562 (u * ((p * yt) - (q * xt))) ((su + (max (sp + se) (sq + sd) + 1))) := hD571 13 _ (by kernel_rfl) rfl (by kernel_rfl)
     have lhp581 := Num.len (by decide) hp581
     refine id (oe_store (v := .agg #[.bool nr576, .slice A577 n578 c579]) (vs := [.bool nr576, .slice A577 n578 c579]) (l := [.bool nr576, .slice A577 n578 c579]) (T rfl hA573) (T rfl hv580) sz100 rfl rfl rfl hB574 rfl ?_)
     intro w582 s583 H584
     exact ⟨s583, H584.trans (congrArg (fun v : Value => some (Obj.cells v.cells 100)) (show fr568 51 = _ from hv580).symm)⟩
 intro fr587 w586 e588 hF589 hP590 hM591 hN592
 have E593 := below_ext E395 E395.size e588
 obtain ⟨_, _, _, _, _, _, _, _, _, _, _, _, _, p594, _, _, _⟩ := hP590
 obtain ⟨nr595, A596, n597, c598, hv599, hp600⟩ : ∃ (nr559 : Bool) (A560 : Option Addr) (n561 : Nat) (c562 : Nat), fr587 51 = .agg #[.bool nr559, .slice A560 n561 c562] ∧ Num 32 183 .u32 w586 nr559 A560 n561 c562 (u * ((p * yt) - (q * xt))) ((su + (max (sp + se) (sq + sd) + 1))) := p594.resolve_left (nst (by kernel_rfl))
 have lhp600 := Num.len (by decide) hp600
 obtain ⟨⟨b601, hA602, hB603, hC604⟩, _⟩ := hM591
 have H605 : w586.heap[b601]? = some (.cells #[.bool nr595, .slice A596 n597 c598] 100) := hC604.trans (congrArg (fun v : Value => some (Obj.cells v.cells 100)) hv599)
 have N606 : w.heap.size ≤ b601 := by omega
 refine rk_seq ?_
 refine rk_any (fun w => w.heap[b206]? = some (.cells #[.bool nr200, .slice A201 n202 c203] 100) ∧ w.heap[b403]? = some (.cells #[.bool nr397, .slice A398 n399 c400] 100) ∧ w.heap[b601]? = some (.cells #[.bool nr595, .slice A596 n597 c598] 100)) [6] mo ?_
 intro w607 d608
 have E609 := below_ext E593 E593.size d608.ext
 have H610 := (d608.ext.blk (e588.blk H412))
 have H611 := (d608.ext.blk (e588.blk H407))
 have H612 := (d608.ext.blk H605)
 refine aw_load 0 (.agg #[.bool nr200, .slice A201 n202 c203]) rfl (by kernel_rfl) .none ⟨H610, H611, H612⟩ (fun _ s => dv_loads (l := [.bool nr200, .slice A201 n202 c203]) agt100 sz100 (T rfl ((hF589 7 rfl).trans ((hF391 7 rfl).trans hA207))) s.1 rfl) ?_
 refine aw_load 1 (.agg #[.bool nr397, .slice A398 n399 c400]) rfl (by kernel_rfl) .none ⟨H610, H611, H612⟩ (fun _ s => dv_loads (l := [.bool nr397, .slice A398 n399 c400]) agt100 sz100 (T rfl ((hF589 8 rfl).trans hA404)) s.2.1 rfl) ?_
 refine aw_load 3 (.agg #[.bool nr595, .slice A596 n597 c598]) rfl (by kernel_rfl) .none ⟨H610, H611, H612⟩ (fun _ s => dv_loads (l := [.bool nr595, .slice A596 n597 c598]) agt100 sz100 (T rfl hA602) s.2.2 rfl) ?_
 have h613 := (((hp205.ext e390).ext e588).ext d608.ext)
 have h614 := ((hp402.ext e588).ext d608.ext)
 refine aw_one 2 rfl (by kernel_rfl) .none (oe_callf (vs := [.agg #[.bool nr200, .slice A201 n202 c203], .agg #[.bool nr397, .slice A398 n399 c400]]) co104 (ar2 (T rfl rfl) (T rfl rfl)) (l1Sub_ok h613 h614 (by first | decide | omega) (by first | decide | omega)) ?_)
 rintro _ w620 ⟨nr615, A616, n617, c618, rfl, e621, h619⟩
 have E622 := below_ext E609 E609.size e621
 have lh619 := Num.len (by decide) h619
 have H623 := (e621.blk H610)
 have H624 := (e621.blk H611)
 have H625 := (e621.blk H612)
 refine ⟨.inr ⟨H623, H624, H625⟩, ?_⟩
 have h626 := ((hp600.ext d608.ext).ext e621)
 refine aw_one 4 rfl (by kernel_rfl) .none (oe_callf (vs := [.agg #[.bool nr615, .slice A616 n617 c618], .agg #[.bool nr595, .slice A596 n597 c598]]) co98 (ar2 (T rfl rfl) (T rfl rfl)) (l1Add_ok h619 h626 (by first | decide | omega) (by first | decide | omega)) ?_)
 rintro _ w632 ⟨nr627, A628, n629, c630, rfl, e633, h631⟩
 have E634 := below_ext E622 E622.size e633
 have lh631 := Num.len (by decide) h631
 have H635 := (e633.blk H623)
 have H636 := (e633.blk H624)
 have H637 := (e633.blk H625)
 refine ⟨.inr ⟨H635, H636, H637⟩, ?_⟩
 refine aw_one 5 rfl (by kernel_rfl) .none (oe_callf (vs := [.agg #[.bool nr627, .slice A628 n629 c630]]) co126 (ar1 (T rfl rfl)) (l1Sign_ok h631 ) ?_)
 rintro _ w638 ⟨rfl, e639⟩
 have E640 := below_ext E634 E634.size e639
 have H641 := (e639.blk H635)
 have H642 := (e639.blk H636)
 have H643 := (e639.blk H637)
 refine ⟨.inr ⟨H641, H642, H643⟩, ?_⟩
 refine aw_last 6 (.int .i64 (sgnI (((x * ((q * ut) - (r * yt))) - (y * ((p * ut) - (r * xt)))) + (u * ((p * yt) - (q * xt)))))) rfl (by kernel_rfl) .none (fun _ => dv_assign (T rfl rfl)) ?_
 refine aw_done (by kernel_rfl) ?_
 refine rk_ret Try.func73 (v := .int .i64 (sgnI (((x * ((q * ut) - (r * yt))) - (y * ((p * ut) - (r * xt)))) + (u * ((p * yt) - (q * xt)))))) (res1 Try.results73 (rv_tmp rfl rfl)) ⟨_, rfl, ?_⟩
 exact ⟨(vi (by unfold ori; congr 1)), E640⟩
end Go.Proofs.Ytdanhdbanfpghaa.W
set_option linter.unusedVariables false
set_option linter.unusedSimpArgs false
namespace Go.Proofs.Ytdanhdbanfpghaa.W
open Go Go.RowKit Go.Proofs.Ytdanhdbanfpghaa.Fw
attribute [local irreducible] RunK LW AW DV OE Ct
theorem agt2 : aggB Try.prog 2 = some false := by kernel_rfl
theorem agt41 : aggB Try.prog 41 = some true := by kernel_rfl
theorem agt45 : aggB Try.prog 45 = some true := by kernel_rfl
theorem agt47 : aggB Try.prog 47 = some true := by kernel_rfl
theorem co109 : callOk Try.prog 109 = true := by kernel_rfl
theorem co114 : callOk Try.prog 114 = true := by kernel_rfl
theorem co124 : callOk Try.prog 124 = true := by kernel_rfl
theorem co31 : callOk Try.prog 31 = true := by kernel_rfl
theorem co45 : callOk Try.prog 45 = true := by kernel_rfl
theorem co84 : callOk Try.prog 84 = true := by kernel_rfl
theorem co85 : callOk Try.prog 85 = true := by kernel_rfl
theorem eg45 : Try.prog.eqGuardType Try.prog.depth 45 = false := by kernel_rfl
theorem fl45 : flatB Try.prog 45 .i64 2 = true := by kernel_rfl
theorem fo41_0 : fieldOffB Try.prog 41 0 = some 0 := by kernel_rfl
theorem fo41_1 : fieldOffB Try.prog 41 1 = some 1 := by kernel_rfl
theorem fo43_0 : fieldOffB Try.prog 43 0 = some 0 := by kernel_rfl
theorem fo43_1 : fieldOffB Try.prog 43 1 = some 2 := by kernel_rfl
theorem fo45_0 : fieldOffB Try.prog 45 0 = some 0 := by kernel_rfl
theorem fo45_1 : fieldOffB Try.prog 45 1 = some 1 := by kernel_rfl
theorem fo47_0 : fieldOffB Try.prog 47 0 = some 0 := by kernel_rfl
theorem fo47_1 : fieldOffB Try.prog 47 1 = some 2 := by kernel_rfl
theorem sz2 : sizeB Try.prog 2 = some 1 := by kernel_rfl
theorem sz41 : sizeB Try.prog 41 = some 2 := by kernel_rfl
theorem sz45 : sizeB Try.prog 45 = some 2 := by kernel_rfl
theorem sz47 : sizeB Try.prog 47 = some 4 := by kernel_rfl
theorem ze45 : zeroB Try.prog 45 = some #[.int .i64 0, .int .i64 0] := by kernel_rfl
theorem ze47 : zeroB Try.prog 47 = some #[.int .i64 0, .int .i64 0, .int .i64 0, .int .i64 0] := by kernel_rfl
set_option maxHeartbeats 1000000 in
theorem l1In_ok {w : World} {n lo hi : Int}   : Ct Try.prog 114 [.int .i64 n, .int .i64 lo, .int .i64 hi] w fun v w1 => v = .bool (decide (lo ≤ n ∧ n ≤ hi)) ∧ Ext w w1 := by
 refine ct_run (n := 15) Try.func114 rfl Try.ntmps114 rfl ?_
 have E0 : Below w.heap.size w w := Below.refl _ _
 refine rk_seq ?_
 refine rk_reg ?_
 refine lw_v (.bool false) (dv_assign C) ?_
 refine lw_nil ?_
 refine rk_seq ?_
 refine rk_reg ?_
 refine lw_v (.int .i64 n) (dv_move (T rfl rfl)) ?_
 refine lw_v (.int .i64 lo) (dv_move (T rfl rfl)) ?_
 refine lw_v (.bool (decide (lo ≤ n))) (dv_geq (a := n) (b := lo) (T rfl rfl) (T rfl rfl)) ?_
 refine lw_v (.bool (decide (lo ≤ n))) (dv_move (T rfl rfl)) ?_
 by_cases hb1 : lo ≤ n
 · refine lw_vy (.int .i64 n) (d := 10) rfl rfl (congrArg Value.bool (decide_eq_true hb1)) (dv_move (T rfl rfl)) ?_
   refine lw_vy (.int .i64 hi) (d := 10) rfl rfl (congrArg Value.bool (decide_eq_true hb1)) (dv_move (T rfl rfl)) ?_
   refine lw_vy (.bool (decide (n ≤ hi))) (d := 10) rfl rfl (congrArg Value.bool (decide_eq_true hb1)) (dv_leq (a := n) (b := hi) (T rfl rfl) (T rfl rfl)) ?_
   refine lw_v (.bool (decide (n ≤ hi))) (dv_pick_t (T rfl (congrArg Value.bool (decide_eq_true hb1))) (T rfl rfl)) ?_
   refine lw_v (.bool (decide (n ≤ hi))) (dv_assign (T rfl rfl)) ?_
   refine lw_nil ?_
   refine rk_ret Try.func114 (v := .bool (decide (n ≤ hi))) (res1 Try.results114 (rv_tmp rfl rfl)) ⟨_, rfl, ?_⟩
   exact ⟨(vb (by grind)), E0⟩
 · refine lw_no (d := 10) rfl rfl (congrArg Value.bool (decide_eq_false hb1)) ?_
   refine lw_no (d := 10) rfl rfl (congrArg Value.bool (decide_eq_false hb1)) ?_
   refine lw_no (d := 10) rfl rfl (congrArg Value.bool (decide_eq_false hb1)) ?_
   refine lw_v (.bool false) (dv_pick_f (T rfl (congrArg Value.bool (decide_eq_false hb1))) C) ?_
   refine lw_v (.bool false) (dv_assign (T rfl rfl)) ?_
   refine lw_nil ?_
   refine rk_ret Try.func114 (v := .bool false) (res1 Try.results114 (rv_tmp rfl rfl)) ⟨_, rfl, ?_⟩
   exact ⟨(vf (by grind)), E0⟩
set_option maxHeartbeats 1000000 in
theorem within_ok {w : World} {n lo hi : Int}   : Ct Try.prog 85 [.int .i64 n, .int .i64 lo, .int .i64 hi] w fun v w1 => v = .bool (decide (lo ≤ n ∧ n ≤ hi)) ∧ Ext w w1 := by
 refine ct_run (n := 15) Try.func85 rfl Try.ntmps85 rfl ?_
 have E0 : Below w.heap.size w w := Below.refl _ _
 refine rk_seq ?_
 refine rk_reg ?_
 refine lw_v (.bool false) (dv_assign C) ?_
 refine lw_nil ?_
 refine rk_seq ?_
 refine rk_reg ?_
 refine lw_v (.int .i64 lo) (dv_move (T rfl rfl)) ?_
 refine lw_v (.int .i64 n) (dv_move (T rfl rfl)) ?_
 refine lw_v (.bool (decide (lo ≤ n))) (dv_leq (a := lo) (b := n) (T rfl rfl) (T rfl rfl)) ?_
 refine lw_v (.bool (decide (lo ≤ n))) (dv_move (T rfl rfl)) ?_
 by_cases hb1 : lo ≤ n
 · refine lw_vy (.int .i64 n) (d := 10) rfl rfl (congrArg Value.bool (decide_eq_true hb1)) (dv_move (T rfl rfl)) ?_
   refine lw_vy (.int .i64 hi) (d := 10) rfl rfl (congrArg Value.bool (decide_eq_true hb1)) (dv_move (T rfl rfl)) ?_
   refine lw_vy (.bool (decide (n ≤ hi))) (d := 10) rfl rfl (congrArg Value.bool (decide_eq_true hb1)) (dv_leq (a := n) (b := hi) (T rfl rfl) (T rfl rfl)) ?_
   refine lw_v (.bool (decide (n ≤ hi))) (dv_pick_t (T rfl (congrArg Value.bool (decide_eq_true hb1))) (T rfl rfl)) ?_
   refine lw_v (.bool (decide (n ≤ hi))) (dv_assign (T rfl rfl)) ?_
   refine lw_nil ?_
   refine rk_ret Try.func85 (v := .bool (decide (n ≤ hi))) (res1 Try.results85 (rv_tmp rfl rfl)) ⟨_, rfl, ?_⟩
   exact ⟨(vb (by grind)), E0⟩
 · refine lw_no (d := 10) rfl rfl (congrArg Value.bool (decide_eq_false hb1)) ?_
   refine lw_no (d := 10) rfl rfl (congrArg Value.bool (decide_eq_false hb1)) ?_
   refine lw_no (d := 10) rfl rfl (congrArg Value.bool (decide_eq_false hb1)) ?_
   refine lw_v (.bool false) (dv_pick_f (T rfl (congrArg Value.bool (decide_eq_false hb1))) C) ?_
   refine lw_v (.bool false) (dv_assign (T rfl rfl)) ?_
   refine lw_nil ?_
   refine rk_ret Try.func85 (v := .bool false) (res1 Try.results85 (rv_tmp rfl rfl)) ⟨_, rfl, ?_⟩
   exact ⟨(vf (by grind)), E0⟩
set_option maxHeartbeats 1000000 in
theorem sSpotOk_ok {w : World} {x y : Int}   : Ct Try.prog 109 [.agg #[.int .i64 x, .int .i64 y]] w fun v w1 => v = .bool (decide (spotOk x y)) ∧ Ext w w1 := by
 refine ct_run (n := 11) Try.func109 rfl Try.ntmps109 rfl ?_
 have E0 : Below w.heap.size w w := Below.refl _ _
 refine rk_seq ?_
 refine rk_reg ?_
 refine lw_e (oe_box (v := .agg #[.int .i64 x, .int .i64 y]) (cs := #[.int .i64 x, .int .i64 y]) (T rfl rfl) rfl ?_)
 intro b1 w2 n3
 have N4 : w.heap.size ≤ b1 := n3.eq ▸ E0.size
 have E5 := below_ext E0 E0.size n3.ext
 refine lw_v (.bool false) (dv_assign C) ?_
 refine lw_nil ?_
 refine rk_seq ?_
 refine rk_reg ?_
 refine lw_v (.pointer (some ⟨b1, 0, none⟩)) (dv_fieldAddr (a := ⟨b1, 0, none⟩) (a' := ⟨b1, 0, none⟩) fo45_0 (T rfl rfl) rfl) ?_
 refine lw_v (.int .i64 x) (dv_load1 (b := b1) (o := 0) agt2 (T rfl rfl) n3.blk rfl) ?_
 refine lw_e (oe_callf (vs := [.int .i64 x, .int .i64 (-1000000), .int .i64 1000000]) co114 (ar3 (T rfl rfl) C C) (l1In_ok (n := x) (lo := -1000000) (hi := 1000000)  ) ?_)
 rintro _ w6 ⟨rfl, e7⟩
 have E8 := below_ext E5 E5.size e7
 refine lw_v (.bool (decide ((-1000000 : Int) ≤ x ∧ x ≤ (1000000 : Int)))) (dv_move (T rfl rfl)) ?_
 by_cases hb9 : (-1000000 : Int) ≤ x ∧ x ≤ (1000000 : Int)
 · refine lw_vy (.pointer (some ⟨b1, 1, none⟩)) (d := 6) rfl rfl (congrArg Value.bool (decide_eq_true hb9)) (dv_fieldAddr (a := ⟨b1, 0, none⟩) (a' := ⟨b1, 1, none⟩) fo45_1 (T rfl rfl) rfl) ?_
   have H10 := (e7.blk n3.blk)
   refine lw_vy (.int .i64 y) (d := 6) rfl rfl (congrArg Value.bool (decide_eq_true hb9)) (dv_load1 (b := b1) (o := 1) agt2 (T rfl rfl) H10 rfl) ?_
   refine lw_ey (d := 6) rfl rfl (congrArg Value.bool (decide_eq_true hb9)) (oe_callf (vs := [.int .i64 y, .int .i64 (-1000000), .int .i64 1000000]) co114 (ar3 (T rfl rfl) C C) (l1In_ok (n := y) (lo := -1000000) (hi := 1000000)  ) ?_)
   rintro _ w11 ⟨rfl, e12⟩
   have E13 := below_ext E8 E8.size e12
   refine lw_v (.bool (decide ((-1000000 : Int) ≤ y ∧ y ≤ (1000000 : Int)))) (dv_pick_t (T rfl (congrArg Value.bool (decide_eq_true hb9))) (T rfl rfl)) ?_
   refine lw_v (.bool (decide ((-1000000 : Int) ≤ y ∧ y ≤ (1000000 : Int)))) (dv_assign (T rfl rfl)) ?_
   refine lw_nil ?_
   refine rk_ret Try.func109 (v := .bool (decide ((-1000000 : Int) ≤ y ∧ y ≤ (1000000 : Int)))) (res1 Try.results109 (rv_tmp rfl rfl)) ⟨_, rfl, ?_⟩
   exact ⟨(vb (by unfold spotOk; grind)), E13⟩
 · refine lw_no (d := 6) rfl rfl (congrArg Value.bool (decide_eq_false hb9)) ?_
   refine lw_no (d := 6) rfl rfl (congrArg Value.bool (decide_eq_false hb9)) ?_
   refine lw_no (d := 6) rfl rfl (congrArg Value.bool (decide_eq_false hb9)) ?_
   refine lw_v (.bool false) (dv_pick_f (T rfl (congrArg Value.bool (decide_eq_false hb9))) C) ?_
   refine lw_v (.bool false) (dv_assign (T rfl rfl)) ?_
   refine lw_nil ?_
   refine rk_ret Try.func109 (v := .bool false) (res1 Try.results109 (rv_tmp rfl rfl)) ⟨_, rfl, ?_⟩
   exact ⟨(vf (by unfold spotOk; grind)), E8⟩
set_option maxHeartbeats 1000000 in
theorem iSpotOk_ok {w : World} {x y : Int}   : Ct Try.prog 31 [.agg #[.int .i64 x, .int .i64 y]] w fun v w1 => v = .bool (decide (spotOk x y)) ∧ Ext w w1 := by
 refine ct_run (n := 11) Try.func31 rfl Try.ntmps31 rfl ?_
 have E0 : Below w.heap.size w w := Below.refl _ _
 refine rk_seq ?_
 refine rk_reg ?_
 refine lw_e (oe_box (v := .agg #[.int .i64 x, .int .i64 y]) (cs := #[.int .i64 x, .int .i64 y]) (T rfl rfl) rfl ?_)
 intro b1 w2 n3
 have N4 : w.heap.size ≤ b1 := n3.eq ▸ E0.size
 have E5 := below_ext E0 E0.size n3.ext
 refine lw_v (.bool false) (dv_assign C) ?_
 refine lw_nil ?_
 refine rk_seq ?_
 refine rk_reg ?_
 refine lw_v (.pointer (some ⟨b1, 0, none⟩)) (dv_fieldAddr (a := ⟨b1, 0, none⟩) (a' := ⟨b1, 0, none⟩) fo45_0 (T rfl rfl) rfl) ?_
 refine lw_v (.int .i64 x) (dv_load1 (b := b1) (o := 0) agt2 (T rfl rfl) n3.blk rfl) ?_
 refine lw_e (oe_callf (vs := [.int .i64 x, .int .i64 (-1000000), .int .i64 1000000]) co85 (ar3 (T rfl rfl) C C) (within_ok (n := x) (lo := -1000000) (hi := 1000000)  ) ?_)
 rintro _ w6 ⟨rfl, e7⟩
 have E8 := below_ext E5 E5.size e7
 refine lw_v (.bool (decide ((-1000000 : Int) ≤ x ∧ x ≤ (1000000 : Int)))) (dv_move (T rfl rfl)) ?_
 by_cases hb9 : (-1000000 : Int) ≤ x ∧ x ≤ (1000000 : Int)
 · refine lw_vy (.pointer (some ⟨b1, 1, none⟩)) (d := 6) rfl rfl (congrArg Value.bool (decide_eq_true hb9)) (dv_fieldAddr (a := ⟨b1, 0, none⟩) (a' := ⟨b1, 1, none⟩) fo45_1 (T rfl rfl) rfl) ?_
   have H10 := (e7.blk n3.blk)
   refine lw_vy (.int .i64 y) (d := 6) rfl rfl (congrArg Value.bool (decide_eq_true hb9)) (dv_load1 (b := b1) (o := 1) agt2 (T rfl rfl) H10 rfl) ?_
   refine lw_ey (d := 6) rfl rfl (congrArg Value.bool (decide_eq_true hb9)) (oe_callf (vs := [.int .i64 y, .int .i64 (-1000000), .int .i64 1000000]) co85 (ar3 (T rfl rfl) C C) (within_ok (n := y) (lo := -1000000) (hi := 1000000)  ) ?_)
   rintro _ w11 ⟨rfl, e12⟩
   have E13 := below_ext E8 E8.size e12
   refine lw_v (.bool (decide ((-1000000 : Int) ≤ y ∧ y ≤ (1000000 : Int)))) (dv_pick_t (T rfl (congrArg Value.bool (decide_eq_true hb9))) (T rfl rfl)) ?_
   refine lw_v (.bool (decide ((-1000000 : Int) ≤ y ∧ y ≤ (1000000 : Int)))) (dv_assign (T rfl rfl)) ?_
   refine lw_nil ?_
   refine rk_ret Try.func31 (v := .bool (decide ((-1000000 : Int) ≤ y ∧ y ≤ (1000000 : Int)))) (res1 Try.results31 (rv_tmp rfl rfl)) ⟨_, rfl, ?_⟩
   exact ⟨(vb (by unfold spotOk; grind)), E13⟩
 · refine lw_no (d := 6) rfl rfl (congrArg Value.bool (decide_eq_false hb9)) ?_
   refine lw_no (d := 6) rfl rfl (congrArg Value.bool (decide_eq_false hb9)) ?_
   refine lw_no (d := 6) rfl rfl (congrArg Value.bool (decide_eq_false hb9)) ?_
   refine lw_v (.bool false) (dv_pick_f (T rfl (congrArg Value.bool (decide_eq_false hb9))) C) ?_
   refine lw_v (.bool false) (dv_assign (T rfl rfl)) ?_
   refine lw_nil ?_
   refine rk_ret Try.func31 (v := .bool false) (res1 Try.results31 (rv_tmp rfl rfl)) ⟨_, rfl, ?_⟩
   exact ⟨(vf (by unfold spotOk; grind)), E8⟩
set_option maxHeartbeats 1000000 in
theorem toSpot_ok {w : World} {x y : Int}   : Ct Try.prog 45 [.agg #[.int .i64 x, .int .i64 y]] w fun v w1 => v = .agg #[.int .i64 x, .int .i64 y] ∧ Ext w w1 := by
 refine ct_run (n := 11) Try.func45 rfl Try.ntmps45 rfl ?_
 have E0 : Below w.heap.size w w := Below.refl _ _
 refine rk_seq ?_
 refine rk_reg ?_
 refine lw_e (oe_box (v := .agg #[.int .i64 x, .int .i64 y]) (cs := #[.int .i64 x, .int .i64 y]) (T rfl rfl) rfl ?_)
 intro b1 w2 n3
 have N4 : w.heap.size ≤ b1 := n3.eq ▸ E0.size
 have E5 := below_ext E0 E0.size n3.ext
 refine lw_e (oe_alloc ze45 ?_)
 intro b6 w7 n8
 have N9 : w.heap.size ≤ b6 := n8.eq ▸ E5.size
 have : b1 < b6 := n8.eq ▸ lt_of_blk n3.blk
 have E10 := below_ext E5 E5.size n8.ext
 refine lw_nil ?_
 refine rk_seq ?_
 refine rk_reg ?_
 refine lw_e (oe_alloc ze45 ?_)
 intro b11 w12 n13
 have N14 : w.heap.size ≤ b11 := n13.eq ▸ E10.size
 have : b6 < b11 := n13.eq ▸ lt_of_blk n8.blk
 have E15 := below_ext E10 E10.size n13.ext
 refine lw_nil ?_
 refine rk_seq ?_
 refine rk_reg ?_
 refine lw_v (.pointer (some ⟨b1, 0, none⟩)) (dv_fieldAddr (a := ⟨b1, 0, none⟩) (a' := ⟨b1, 0, none⟩) fo41_0 (T rfl rfl) rfl) ?_
 have H16 := (n13.ext.blk (n8.ext.blk n3.blk))
 refine lw_v (.int .i64 x) (dv_load1 (b := b1) (o := 0) agt2 (T rfl rfl) H16 rfl) ?_
 refine lw_v (.pointer (some ⟨b11, 0, none⟩)) (dv_fieldAddr (a := ⟨b11, 0, none⟩) (a' := ⟨b11, 0, none⟩) fo45_0 (T rfl rfl) rfl) ?_
 refine lw_e (oe_store (v := .int .i64 x) (vs := [.int .i64 x]) (l := [.int .i64 x, .int .i64 0]) (T rfl rfl) (T rfl rfl) sz2 rfl rfl rfl n13.blk rfl ?_)
 intro w17 s18 H19
 have E20 := below_st E15 N14 s18
 refine lw_nil ?_
 refine rk_seq ?_
 refine rk_reg ?_
 refine lw_v (.pointer (some ⟨b1, 1, none⟩)) (dv_fieldAddr (a := ⟨b1, 0, none⟩) (a' := ⟨b1, 1, none⟩) fo41_1 (T rfl rfl) rfl) ?_
 have H21 := (s18.blk H16 (by omega))
 refine lw_v (.int .i64 y) (dv_load1 (b := b1) (o := 1) agt2 (T rfl rfl) H21 rfl) ?_
 refine lw_v (.pointer (some ⟨b11, 1, none⟩)) (dv_fieldAddr (a := ⟨b11, 0, none⟩) (a' := ⟨b11, 1, none⟩) fo45_1 (T rfl rfl) rfl) ?_
 refine lw_e (oe_store (v := .int .i64 y) (vs := [.int .i64 y]) (l := [.int .i64 x, .int .i64 y]) (T rfl rfl) (T rfl rfl) sz2 rfl rfl rfl H19 rfl ?_)
 intro w22 s23 H24
 have E25 := below_st E20 N14 s23
 refine lw_nil ?_
 refine rk_seq ?_
 refine rk_reg ?_
 refine lw_v (.agg #[.int .i64 x, .int .i64 y]) (dv_loads (l := [.int .i64 x, .int .i64 y]) agt45 sz45 (T rfl rfl) H24 rfl) ?_
 have H26 := (s23.blk (s18.blk (n13.ext.blk n8.blk) (by omega)) (by omega))
 refine lw_e (oe_store (v := .agg #[.int .i64 x, .int .i64 y]) (vs := [.int .i64 x, .int .i64 y]) (l := [.int .i64 x, .int .i64 y]) (T rfl rfl) (T rfl rfl) sz45 rfl rfl rfl H26 rfl ?_)
 intro w27 s28 H29
 have E30 := below_st E25 N9 s28
 refine lw_nil ?_
 refine rk_ret Try.func45 (v := .agg #[.int .i64 x, .int .i64 y]) (res1 Try.results45 (rv_cells (l := [.int .i64 x, .int .i64 y]) agt45 sz45 rfl rfl H29 rfl)) ⟨_, rfl, ?_⟩
 exact ⟨rfl, E30⟩
set_option maxHeartbeats 1000000 in
theorem l4Less_ok {w : World} {ax ay bx b_y : Int}   : Ct Try.prog 124 [.agg #[.int .i64 ax, .int .i64 ay], .agg #[.int .i64 bx, .int .i64 b_y]] w fun v w1 => v = .bool (decide (spotLt ax ay bx b_y)) ∧ Ext w w1 := by
 refine ct_run (n := 24) Try.func124 rfl Try.ntmps124 rfl ?_
 have E0 : Below w.heap.size w w := Below.refl _ _
 refine rk_seq ?_
 refine rk_reg ?_
 refine lw_e (oe_box (v := .agg #[.int .i64 ax, .int .i64 ay]) (cs := #[.int .i64 ax, .int .i64 ay]) (T rfl rfl) rfl ?_)
 intro b1 w2 n3
 have N4 : w.heap.size ≤ b1 := n3.eq ▸ E0.size
 have E5 := below_ext E0 E0.size n3.ext
 refine lw_e (oe_box (v := .agg #[.int .i64 bx, .int .i64 b_y]) (cs := #[.int .i64 bx, .int .i64 b_y]) (T rfl rfl) rfl ?_)
 intro b6 w7 n8
 have N9 : w.heap.size ≤ b6 := n8.eq ▸ E5.size
 have : b1 < b6 := n8.eq ▸ lt_of_blk n3.blk
 have E10 := below_ext E5 E5.size n8.ext
 refine lw_v (.bool false) (dv_assign C) ?_
 refine lw_nil ?_
 refine rk_seq ?_
 refine rk_reg ?_
 refine lw_v (.pointer (some ⟨b1, 0, none⟩)) (dv_fieldAddr (a := ⟨b1, 0, none⟩) (a' := ⟨b1, 0, none⟩) fo45_0 (T rfl rfl) rfl) ?_
 have H11 := (n8.ext.blk n3.blk)
 refine lw_v (.int .i64 ax) (dv_load1 (b := b1) (o := 0) agt2 (T rfl rfl) H11 rfl) ?_
 refine lw_v (.pointer (some ⟨b6, 0, none⟩)) (dv_fieldAddr (a := ⟨b6, 0, none⟩) (a' := ⟨b6, 0, none⟩) fo45_0 (T rfl rfl) rfl) ?_
 refine lw_v (.int .i64 bx) (dv_load1 (b := b6) (o := 0) agt2 (T rfl rfl) n8.blk rfl) ?_
 refine lw_v (.bool (decide (ax < bx))) (dv_lss (a := ax) (b := bx) (T rfl rfl) (T rfl rfl)) ?_
 refine lw_v (.bool (decide (ax < bx))) (dv_move (T rfl rfl)) ?_
 by_cases hb12 : ax < bx
 · refine lw_no (d := 10) rfl rfl (congrArg Value.bool (decide_eq_true hb12)) ?_
   refine lw_no (d := 10) rfl rfl (congrArg Value.bool (decide_eq_true hb12)) ?_
   refine lw_no (d := 10) rfl rfl (congrArg Value.bool (decide_eq_true hb12)) ?_
   refine lw_no (d := 10) rfl rfl (congrArg Value.bool (decide_eq_true hb12)) ?_
   refine lw_no (d := 10) rfl rfl (congrArg Value.bool (decide_eq_true hb12)) ?_
   refine lw_no (d := 10) rfl rfl (congrArg Value.bool (decide_eq_true hb12)) ?_
   refine lw_nou (d := 16) rfl rfl ?_
   refine lw_nou (d := 16) rfl rfl ?_
   refine lw_nou (d := 16) rfl rfl ?_
   refine lw_nou (d := 16) rfl rfl ?_
   refine lw_nou (d := 16) rfl rfl ?_
   refine lw_no (d := 10) rfl rfl (congrArg Value.bool (decide_eq_true hb12)) ?_
   refine lw_v (.bool true) (dv_pick_t (T rfl (congrArg Value.bool (decide_eq_true hb12))) C) ?_
   refine lw_v (.bool true) (dv_assign (T rfl rfl)) ?_
   refine lw_nil ?_
   refine rk_ret Try.func124 (v := .bool true) (res1 Try.results124 (rv_tmp rfl rfl)) ⟨_, rfl, ?_⟩
   exact ⟨(vt (by unfold spotLt; grind)), E10⟩
 · refine lw_vy (.pointer (some ⟨b1, 0, none⟩)) (d := 10) rfl rfl (congrArg Value.bool (decide_eq_false hb12)) (dv_fieldAddr (a := ⟨b1, 0, none⟩) (a' := ⟨b1, 0, none⟩) fo45_0 (T rfl rfl) rfl) ?_
   refine lw_vy (.int .i64 ax) (d := 10) rfl rfl (congrArg Value.bool (decide_eq_false hb12)) (dv_load1 (b := b1) (o := 0) agt2 (T rfl rfl) H11 rfl) ?_
   refine lw_vy (.pointer (some ⟨b6, 0, none⟩)) (d := 10) rfl rfl (congrArg Value.bool (decide_eq_false hb12)) (dv_fieldAddr (a := ⟨b6, 0, none⟩) (a' := ⟨b6, 0, none⟩) fo45_0 (T rfl rfl) rfl) ?_
   refine lw_vy (.int .i64 bx) (d := 10) rfl rfl (congrArg Value.bool (decide_eq_false hb12)) (dv_load1 (b := b6) (o := 0) agt2 (T rfl rfl) n8.blk rfl) ?_
   refine lw_vy (.bool (decide (ax = bx))) (d := 10) rfl rfl (congrArg Value.bool (decide_eq_false hb12)) (dv_eql (a := ax) (b := bx) (T rfl rfl) (T rfl rfl)) ?_
   refine lw_vy (.bool (decide (ax = bx))) (d := 10) rfl rfl (congrArg Value.bool (decide_eq_false hb12)) (dv_move (T rfl rfl)) ?_
   by_cases hb13 : ax = bx
   · refine lw_vy (.pointer (some ⟨b1, 1, none⟩)) (d := 16) rfl rfl (congrArg Value.bool (decide_eq_true hb13)) (dv_fieldAddr (a := ⟨b1, 0, none⟩) (a' := ⟨b1, 1, none⟩) fo45_1 (T rfl rfl) rfl) ?_
     refine lw_vy (.int .i64 ay) (d := 16) rfl rfl (congrArg Value.bool (decide_eq_true hb13)) (dv_load1 (b := b1) (o := 1) agt2 (T rfl rfl) H11 rfl) ?_
     refine lw_vy (.pointer (some ⟨b6, 1, none⟩)) (d := 16) rfl rfl (congrArg Value.bool (decide_eq_true hb13)) (dv_fieldAddr (a := ⟨b6, 0, none⟩) (a' := ⟨b6, 1, none⟩) fo45_1 (T rfl rfl) rfl) ?_
     refine lw_vy (.int .i64 b_y) (d := 16) rfl rfl (congrArg Value.bool (decide_eq_true hb13)) (dv_load1 (b := b6) (o := 1) agt2 (T rfl rfl) n8.blk rfl) ?_
     refine lw_vy (.bool (decide (ay < b_y))) (d := 16) rfl rfl (congrArg Value.bool (decide_eq_true hb13)) (dv_lss (a := ay) (b := b_y) (T rfl rfl) (T rfl rfl)) ?_
     refine lw_vy (.bool (decide (ay < b_y))) (d := 10) rfl rfl (congrArg Value.bool (decide_eq_false hb12)) (dv_pick_t (T rfl (congrArg Value.bool (decide_eq_true hb13))) (T rfl rfl)) ?_
     refine lw_v (.bool (decide (ay < b_y))) (dv_pick_f (T rfl (congrArg Value.bool (decide_eq_false hb12))) (T rfl rfl)) ?_
     refine lw_v (.bool (decide (ay < b_y))) (dv_assign (T rfl rfl)) ?_
     refine lw_nil ?_
     refine rk_ret Try.func124 (v := .bool (decide (ay < b_y))) (res1 Try.results124 (rv_tmp rfl rfl)) ⟨_, rfl, ?_⟩
     exact ⟨(vb (by unfold spotLt; grind)), E10⟩
   · refine lw_no (d := 16) rfl rfl (congrArg Value.bool (decide_eq_false hb13)) ?_
     refine lw_no (d := 16) rfl rfl (congrArg Value.bool (decide_eq_false hb13)) ?_
     refine lw_no (d := 16) rfl rfl (congrArg Value.bool (decide_eq_false hb13)) ?_
     refine lw_no (d := 16) rfl rfl (congrArg Value.bool (decide_eq_false hb13)) ?_
     refine lw_no (d := 16) rfl rfl (congrArg Value.bool (decide_eq_false hb13)) ?_
     refine lw_vy (.bool false) (d := 10) rfl rfl (congrArg Value.bool (decide_eq_false hb12)) (dv_pick_f (T rfl (congrArg Value.bool (decide_eq_false hb13))) C) ?_
     refine lw_v (.bool false) (dv_pick_f (T rfl (congrArg Value.bool (decide_eq_false hb12))) (T rfl rfl)) ?_
     refine lw_v (.bool false) (dv_assign (T rfl rfl)) ?_
     refine lw_nil ?_
     refine rk_ret Try.func124 (v := .bool false) (res1 Try.results124 (rv_tmp rfl rfl)) ⟨_, rfl, ?_⟩
     exact ⟨(vf (by unfold spotLt; grind)), E10⟩
set_option maxHeartbeats 1000000 in
theorem cmpSpots_ok {w : World} {ax ay bx b_y : Int}   : Ct Try.prog 84 [.agg #[.int .i64 ax, .int .i64 ay], .agg #[.int .i64 bx, .int .i64 b_y]] w fun v w1 => v = .int .i64 (cmpS ax ay bx b_y) ∧ Ext w w1 := by
 refine ct_run (n := 29) Try.func84 rfl Try.ntmps84 rfl ?_
 have E0 : Below w.heap.size w w := Below.refl _ _
 refine rk_seq ?_
 refine rk_reg ?_
 refine lw_e (oe_box (v := .agg #[.int .i64 ax, .int .i64 ay]) (cs := #[.int .i64 ax, .int .i64 ay]) (T rfl rfl) rfl ?_)
 intro b1 w2 n3
 have N4 : w.heap.size ≤ b1 := n3.eq ▸ E0.size
 have E5 := below_ext E0 E0.size n3.ext
 refine lw_e (oe_box (v := .agg #[.int .i64 bx, .int .i64 b_y]) (cs := #[.int .i64 bx, .int .i64 b_y]) (T rfl rfl) rfl ?_)
 intro b6 w7 n8
 have N9 : w.heap.size ≤ b6 := n8.eq ▸ E5.size
 have : b1 < b6 := n8.eq ▸ lt_of_blk n3.blk
 have E10 := below_ext E5 E5.size n8.ext
 refine lw_v (.int .i64 0) (dv_assign C) ?_
 refine lw_nil ?_
 refine rk_seq ?_
 refine rk_block ?_
 refine rk_seq ?_
 refine rk_reg ?_
 have H11 := (n8.ext.blk n3.blk)
 refine lw_v (.agg #[.int .i64 ax, .int .i64 ay]) (dv_loads (l := [.int .i64 ax, .int .i64 ay]) agt45 sz45 (T rfl rfl) H11 rfl) ?_
 refine lw_v (.agg #[.int .i64 bx, .int .i64 b_y]) (dv_loads (l := [.int .i64 bx, .int .i64 b_y]) agt45 sz45 (T rfl rfl) n8.blk rfl) ?_
 refine lw_v (.bool (decide (([ax, ay] : List Int) = [bx, b_y]))) (dv_eqls (k := .i64) (la := [ax, ay]) (lb := [bx, b_y]) fl45 eg45 (T rfl rfl) (T rfl rfl) rfl rfl) ?_
 refine lw_v (.bool (decide (([ax, ay] : List Int) = [bx, b_y]))) (dv_assign (T rfl rfl)) ?_
 refine lw_nil ?_
 by_cases hb12 : ([ax, ay] : List Int) = [bx, b_y]
 · refine rk_ct (T rfl (congrArg Value.bool (decide_eq_true hb12))) ?_
   refine rk_seq ?_
   refine rk_reg ?_
   refine lw_v (.int .i64 0) (dv_assign C) ?_
   refine lw_nil ?_
   refine rk_ret Try.func84 (v := .int .i64 0) (res1 Try.results84 (rv_tmp rfl rfl)) ⟨_, rfl, ?_⟩
   exact ⟨(vi (by unfold cmpS spotLt; grind)), E10⟩
 · refine rk_cf (T rfl (congrArg Value.bool (decide_eq_false hb12))) ?_
   refine rk_seq ?_
   refine rk_reg ?_
   refine lw_v (.pointer (some ⟨b1, 0, none⟩)) (dv_fieldAddr (a := ⟨b1, 0, none⟩) (a' := ⟨b1, 0, none⟩) fo45_0 (T rfl rfl) rfl) ?_
   refine lw_v (.int .i64 ax) (dv_load1 (b := b1) (o := 0) agt2 (T rfl rfl) H11 rfl) ?_
   refine lw_v (.pointer (some ⟨b6, 0, none⟩)) (dv_fieldAddr (a := ⟨b6, 0, none⟩) (a' := ⟨b6, 0, none⟩) fo45_0 (T rfl rfl) rfl) ?_
   refine lw_v (.int .i64 bx) (dv_load1 (b := b6) (o := 0) agt2 (T rfl rfl) n8.blk rfl) ?_
   refine lw_v (.bool (decide (ax < bx))) (dv_lss (a := ax) (b := bx) (T rfl rfl) (T rfl rfl)) ?_
   refine lw_v (.bool (decide (ax < bx))) (dv_move (T rfl rfl)) ?_
   by_cases hb13 : ax < bx
   · refine lw_no (d := 15) rfl rfl (congrArg Value.bool (decide_eq_true hb13)) ?_
     refine lw_no (d := 15) rfl rfl (congrArg Value.bool (decide_eq_true hb13)) ?_
     refine lw_no (d := 15) rfl rfl (congrArg Value.bool (decide_eq_true hb13)) ?_
     refine lw_no (d := 15) rfl rfl (congrArg Value.bool (decide_eq_true hb13)) ?_
     refine lw_no (d := 15) rfl rfl (congrArg Value.bool (decide_eq_true hb13)) ?_
     refine lw_no (d := 15) rfl rfl (congrArg Value.bool (decide_eq_true hb13)) ?_
     refine lw_nou (d := 21) rfl rfl ?_
     refine lw_nou (d := 21) rfl rfl ?_
     refine lw_nou (d := 21) rfl rfl ?_
     refine lw_nou (d := 21) rfl rfl ?_
     refine lw_nou (d := 21) rfl rfl ?_
     refine lw_no (d := 15) rfl rfl (congrArg Value.bool (decide_eq_true hb13)) ?_
     refine lw_v (.bool true) (dv_pick_t (T rfl (congrArg Value.bool (decide_eq_true hb13))) C) ?_
     refine lw_v (.bool true) (dv_assign (T rfl rfl)) ?_
     refine lw_nil ?_
     refine rk_ct (T rfl rfl) ?_
     refine rk_seq ?_
     refine rk_reg ?_
     refine lw_v (.int .i64 (-1)) (dv_assign C) ?_
     refine lw_nil ?_
     refine rk_ret Try.func84 (v := .int .i64 (-1)) (res1 Try.results84 (rv_tmp rfl rfl)) ⟨_, rfl, ?_⟩
     exact ⟨(vi (by unfold cmpS spotLt; grind)), E10⟩
   · refine lw_vy (.pointer (some ⟨b1, 0, none⟩)) (d := 15) rfl rfl (congrArg Value.bool (decide_eq_false hb13)) (dv_fieldAddr (a := ⟨b1, 0, none⟩) (a' := ⟨b1, 0, none⟩) fo45_0 (T rfl rfl) rfl) ?_
     refine lw_vy (.int .i64 ax) (d := 15) rfl rfl (congrArg Value.bool (decide_eq_false hb13)) (dv_load1 (b := b1) (o := 0) agt2 (T rfl rfl) H11 rfl) ?_
     refine lw_vy (.pointer (some ⟨b6, 0, none⟩)) (d := 15) rfl rfl (congrArg Value.bool (decide_eq_false hb13)) (dv_fieldAddr (a := ⟨b6, 0, none⟩) (a' := ⟨b6, 0, none⟩) fo45_0 (T rfl rfl) rfl) ?_
     refine lw_vy (.int .i64 bx) (d := 15) rfl rfl (congrArg Value.bool (decide_eq_false hb13)) (dv_load1 (b := b6) (o := 0) agt2 (T rfl rfl) n8.blk rfl) ?_
     refine lw_vy (.bool (decide (ax = bx))) (d := 15) rfl rfl (congrArg Value.bool (decide_eq_false hb13)) (dv_eql (a := ax) (b := bx) (T rfl rfl) (T rfl rfl)) ?_
     refine lw_vy (.bool (decide (ax = bx))) (d := 15) rfl rfl (congrArg Value.bool (decide_eq_false hb13)) (dv_move (T rfl rfl)) ?_
     by_cases hb14 : ax = bx
     · refine lw_vy (.pointer (some ⟨b1, 1, none⟩)) (d := 21) rfl rfl (congrArg Value.bool (decide_eq_true hb14)) (dv_fieldAddr (a := ⟨b1, 0, none⟩) (a' := ⟨b1, 1, none⟩) fo45_1 (T rfl rfl) rfl) ?_
       refine lw_vy (.int .i64 ay) (d := 21) rfl rfl (congrArg Value.bool (decide_eq_true hb14)) (dv_load1 (b := b1) (o := 1) agt2 (T rfl rfl) H11 rfl) ?_
       refine lw_vy (.pointer (some ⟨b6, 1, none⟩)) (d := 21) rfl rfl (congrArg Value.bool (decide_eq_true hb14)) (dv_fieldAddr (a := ⟨b6, 0, none⟩) (a' := ⟨b6, 1, none⟩) fo45_1 (T rfl rfl) rfl) ?_
       refine lw_vy (.int .i64 b_y) (d := 21) rfl rfl (congrArg Value.bool (decide_eq_true hb14)) (dv_load1 (b := b6) (o := 1) agt2 (T rfl rfl) n8.blk rfl) ?_
       refine lw_vy (.bool (decide (ay < b_y))) (d := 21) rfl rfl (congrArg Value.bool (decide_eq_true hb14)) (dv_lss (a := ay) (b := b_y) (T rfl rfl) (T rfl rfl)) ?_
       refine lw_vy (.bool (decide (ay < b_y))) (d := 15) rfl rfl (congrArg Value.bool (decide_eq_false hb13)) (dv_pick_t (T rfl (congrArg Value.bool (decide_eq_true hb14))) (T rfl rfl)) ?_
       refine lw_v (.bool (decide (ay < b_y))) (dv_pick_f (T rfl (congrArg Value.bool (decide_eq_false hb13))) (T rfl rfl)) ?_
       refine lw_v (.bool (decide (ay < b_y))) (dv_assign (T rfl rfl)) ?_
       refine lw_nil ?_
       by_cases hb15 : ay < b_y
       · refine rk_ct (T rfl (congrArg Value.bool (decide_eq_true hb15))) ?_
         refine rk_seq ?_
         refine rk_reg ?_
         refine lw_v (.int .i64 (-1)) (dv_assign C) ?_
         refine lw_nil ?_
         refine rk_ret Try.func84 (v := .int .i64 (-1)) (res1 Try.results84 (rv_tmp rfl rfl)) ⟨_, rfl, ?_⟩
         exact ⟨(vi (by unfold cmpS spotLt; grind)), E10⟩
       · refine rk_cf (T rfl (congrArg Value.bool (decide_eq_false hb15))) ?_
         refine rk_skip ?_
         refine rk_inBlock ?_
         refine rk_seq ?_
         refine rk_reg ?_
         refine lw_v (.int .i64 1) (dv_assign C) ?_
         refine lw_nil ?_
         refine rk_ret Try.func84 (v := .int .i64 1) (res1 Try.results84 (rv_tmp rfl rfl)) ⟨_, rfl, ?_⟩
         exact ⟨(vi (by unfold cmpS spotLt; grind)), E10⟩
     · refine lw_no (d := 21) rfl rfl (congrArg Value.bool (decide_eq_false hb14)) ?_
       refine lw_no (d := 21) rfl rfl (congrArg Value.bool (decide_eq_false hb14)) ?_
       refine lw_no (d := 21) rfl rfl (congrArg Value.bool (decide_eq_false hb14)) ?_
       refine lw_no (d := 21) rfl rfl (congrArg Value.bool (decide_eq_false hb14)) ?_
       refine lw_no (d := 21) rfl rfl (congrArg Value.bool (decide_eq_false hb14)) ?_
       refine lw_vy (.bool false) (d := 15) rfl rfl (congrArg Value.bool (decide_eq_false hb13)) (dv_pick_f (T rfl (congrArg Value.bool (decide_eq_false hb14))) C) ?_
       refine lw_v (.bool false) (dv_pick_f (T rfl (congrArg Value.bool (decide_eq_false hb13))) (T rfl rfl)) ?_
       refine lw_v (.bool false) (dv_assign (T rfl rfl)) ?_
       refine lw_nil ?_
       refine rk_cf (T rfl rfl) ?_
       refine rk_skip ?_
       refine rk_inBlock ?_
       refine rk_seq ?_
       refine rk_reg ?_
       refine lw_v (.int .i64 1) (dv_assign C) ?_
       refine lw_nil ?_
       refine rk_ret Try.func84 (v := .int .i64 1) (res1 Try.results84 (rv_tmp rfl rfl)) ⟨_, rfl, ?_⟩
       exact ⟨(vi (by unfold cmpS spotLt; grind)), E10⟩
set_option maxHeartbeats 1000000 in
theorem sSegOk_ok {w : World} {ax ay bx b_y : Int}   : Ct Try.prog 65 [.agg #[.int .i64 ax, .int .i64 ay, .int .i64 bx, .int .i64 b_y]] w fun v w1 => v = .bool (decide (segOk ax ay bx b_y)) ∧ Ext w w1 := by
 refine ct_run (n := 18) Try.func65 rfl Try.ntmps65 rfl ?_
 have E0 : Below w.heap.size w w := Below.refl _ _
 refine rk_seq ?_
 refine rk_reg ?_
 refine lw_e (oe_box (v := .agg #[.int .i64 ax, .int .i64 ay, .int .i64 bx, .int .i64 b_y]) (cs := #[.int .i64 ax, .int .i64 ay, .int .i64 bx, .int .i64 b_y]) (T rfl rfl) rfl ?_)
 intro b1 w2 n3
 have N4 : w.heap.size ≤ b1 := n3.eq ▸ E0.size
 have E5 := below_ext E0 E0.size n3.ext
 refine lw_v (.bool false) (dv_assign C) ?_
 refine lw_nil ?_
 refine rk_seq ?_
 refine rk_reg ?_
 refine lw_v (.pointer (some ⟨b1, 0, none⟩)) (dv_fieldAddr (a := ⟨b1, 0, none⟩) (a' := ⟨b1, 0, none⟩) fo47_0 (T rfl rfl) rfl) ?_
 refine lw_v (.agg #[.int .i64 ax, .int .i64 ay]) (dv_loads (l := [.int .i64 ax, .int .i64 ay]) agt45 sz45 (T rfl rfl) n3.blk rfl) ?_
 refine lw_e (oe_callf (vs := [.agg #[.int .i64 ax, .int .i64 ay]]) co109 (ar1 (T rfl rfl)) (sSpotOk_ok (x := ax) (y := ay)  ) ?_)
 rintro _ w6 ⟨rfl, e7⟩
 have E8 := below_ext E5 E5.size e7
 refine lw_v (.bool (decide (spotOk ax ay))) (dv_move (T rfl rfl)) ?_
 by_cases hb9 : spotOk ax ay
 · refine lw_vy (.pointer (some ⟨b1, 2, none⟩)) (d := 6) rfl rfl (congrArg Value.bool (decide_eq_true hb9)) (dv_fieldAddr (a := ⟨b1, 0, none⟩) (a' := ⟨b1, 2, none⟩) fo47_1 (T rfl rfl) rfl) ?_
   have H10 := (e7.blk n3.blk)
   refine lw_vy (.agg #[.int .i64 bx, .int .i64 b_y]) (d := 6) rfl rfl (congrArg Value.bool (decide_eq_true hb9)) (dv_loads (l := [.int .i64 bx, .int .i64 b_y]) agt45 sz45 (T rfl rfl) H10 rfl) ?_
   refine lw_ey (d := 6) rfl rfl (congrArg Value.bool (decide_eq_true hb9)) (oe_callf (vs := [.agg #[.int .i64 bx, .int .i64 b_y]]) co109 (ar1 (T rfl rfl)) (sSpotOk_ok (x := bx) (y := b_y)  ) ?_)
   rintro _ w11 ⟨rfl, e12⟩
   have E13 := below_ext E8 E8.size e12
   refine lw_v (.bool (decide (spotOk bx b_y))) (dv_pick_t (T rfl (congrArg Value.bool (decide_eq_true hb9))) (T rfl rfl)) ?_
   refine lw_v (.bool (decide (spotOk bx b_y))) (dv_move (T rfl rfl)) ?_
   by_cases hb14 : spotOk bx b_y
   · refine lw_vy (.pointer (some ⟨b1, 0, none⟩)) (d := 11) rfl rfl (congrArg Value.bool (decide_eq_true hb14)) (dv_fieldAddr (a := ⟨b1, 0, none⟩) (a' := ⟨b1, 0, none⟩) fo47_0 (T rfl rfl) rfl) ?_
     have H15 := (e12.blk H10)
     refine lw_vy (.agg #[.int .i64 ax, .int .i64 ay]) (d := 11) rfl rfl (congrArg Value.bool (decide_eq_true hb14)) (dv_loads (l := [.int .i64 ax, .int .i64 ay]) agt45 sz45 (T rfl rfl) H15 rfl) ?_
     refine lw_vy (.pointer (some ⟨b1, 2, none⟩)) (d := 11) rfl rfl (congrArg Value.bool (decide_eq_true hb14)) (dv_fieldAddr (a := ⟨b1, 0, none⟩) (a' := ⟨b1, 2, none⟩) fo47_1 (T rfl rfl) rfl) ?_
     refine lw_vy (.agg #[.int .i64 bx, .int .i64 b_y]) (d := 11) rfl rfl (congrArg Value.bool (decide_eq_true hb14)) (dv_loads (l := [.int .i64 bx, .int .i64 b_y]) agt45 sz45 (T rfl rfl) H15 rfl) ?_
     refine lw_ey (d := 11) rfl rfl (congrArg Value.bool (decide_eq_true hb14)) (oe_callf (vs := [.agg #[.int .i64 ax, .int .i64 ay], .agg #[.int .i64 bx, .int .i64 b_y]]) co124 (ar2 (T rfl rfl) (T rfl rfl)) (l4Less_ok (ax := ax) (ay := ay) (bx := bx) (b_y := b_y)  ) ?_)
     rintro _ w16 ⟨rfl, e17⟩
     have E18 := below_ext E13 E13.size e17
     refine lw_v (.bool (decide (spotLt ax ay bx b_y))) (dv_pick_t (T rfl (congrArg Value.bool (decide_eq_true hb14))) (T rfl rfl)) ?_
     refine lw_v (.bool (decide (spotLt ax ay bx b_y))) (dv_assign (T rfl rfl)) ?_
     refine lw_nil ?_
     refine rk_ret Try.func65 (v := .bool (decide (spotLt ax ay bx b_y))) (res1 Try.results65 (rv_tmp rfl rfl)) ⟨_, rfl, ?_⟩
     exact ⟨(vb (by grind [segOk, cmpS_neg])), E18⟩
   · refine lw_no (d := 11) rfl rfl (congrArg Value.bool (decide_eq_false hb14)) ?_
     refine lw_no (d := 11) rfl rfl (congrArg Value.bool (decide_eq_false hb14)) ?_
     refine lw_no (d := 11) rfl rfl (congrArg Value.bool (decide_eq_false hb14)) ?_
     refine lw_no (d := 11) rfl rfl (congrArg Value.bool (decide_eq_false hb14)) ?_
     refine lw_no (d := 11) rfl rfl (congrArg Value.bool (decide_eq_false hb14)) ?_
     refine lw_v (.bool false) (dv_pick_f (T rfl (congrArg Value.bool (decide_eq_false hb14))) C) ?_
     refine lw_v (.bool false) (dv_assign (T rfl rfl)) ?_
     refine lw_nil ?_
     refine rk_ret Try.func65 (v := .bool false) (res1 Try.results65 (rv_tmp rfl rfl)) ⟨_, rfl, ?_⟩
     exact ⟨(vf (by grind [segOk, cmpS_neg])), E13⟩
 · refine lw_no (d := 6) rfl rfl (congrArg Value.bool (decide_eq_false hb9)) ?_
   refine lw_no (d := 6) rfl rfl (congrArg Value.bool (decide_eq_false hb9)) ?_
   refine lw_no (d := 6) rfl rfl (congrArg Value.bool (decide_eq_false hb9)) ?_
   refine lw_v (.bool false) (dv_pick_f (T rfl (congrArg Value.bool (decide_eq_false hb9))) C) ?_
   refine lw_v (.bool false) (dv_move (T rfl rfl)) ?_
   refine lw_no (d := 11) rfl rfl (rfl) ?_
   refine lw_no (d := 11) rfl rfl (rfl) ?_
   refine lw_no (d := 11) rfl rfl (rfl) ?_
   refine lw_no (d := 11) rfl rfl (rfl) ?_
   refine lw_no (d := 11) rfl rfl (rfl) ?_
   refine lw_v (.bool false) (dv_pick_f (T rfl rfl) C) ?_
   refine lw_v (.bool false) (dv_assign (T rfl rfl)) ?_
   refine lw_nil ?_
   refine rk_ret Try.func65 (v := .bool false) (res1 Try.results65 (rv_tmp rfl rfl)) ⟨_, rfl, ?_⟩
   exact ⟨(vf (by grind [segOk, cmpS_neg])), E8⟩
set_option maxHeartbeats 1000000 in
theorem iSegOk_ok {w : World} {ax ay bx b_y : Int}   : Ct Try.prog 30 [.agg #[.int .i64 ax, .int .i64 ay, .int .i64 bx, .int .i64 b_y]] w fun v w1 => v = .bool (decide (segOk ax ay bx b_y)) ∧ Ext w w1 := by
 refine ct_run (n := 19) Try.func30 rfl Try.ntmps30 rfl ?_
 have E0 : Below w.heap.size w w := Below.refl _ _
 refine rk_seq ?_
 refine rk_reg ?_
 refine lw_e (oe_box (v := .agg #[.int .i64 ax, .int .i64 ay, .int .i64 bx, .int .i64 b_y]) (cs := #[.int .i64 ax, .int .i64 ay, .int .i64 bx, .int .i64 b_y]) (T rfl rfl) rfl ?_)
 intro b1 w2 n3
 have N4 : w.heap.size ≤ b1 := n3.eq ▸ E0.size
 have E5 := below_ext E0 E0.size n3.ext
 refine lw_v (.bool false) (dv_assign C) ?_
 refine lw_nil ?_
 refine rk_seq ?_
 refine rk_reg ?_
 refine lw_v (.pointer (some ⟨b1, 0, none⟩)) (dv_fieldAddr (a := ⟨b1, 0, none⟩) (a' := ⟨b1, 0, none⟩) fo47_0 (T rfl rfl) rfl) ?_
 refine lw_v (.agg #[.int .i64 ax, .int .i64 ay]) (dv_loads (l := [.int .i64 ax, .int .i64 ay]) agt45 sz45 (T rfl rfl) n3.blk rfl) ?_
 refine lw_e (oe_callf (vs := [.agg #[.int .i64 ax, .int .i64 ay]]) co31 (ar1 (T rfl rfl)) (iSpotOk_ok (x := ax) (y := ay)  ) ?_)
 rintro _ w6 ⟨rfl, e7⟩
 have E8 := below_ext E5 E5.size e7
 refine lw_v (.bool (decide (spotOk ax ay))) (dv_move (T rfl rfl)) ?_
 by_cases hb9 : spotOk ax ay
 · refine lw_vy (.pointer (some ⟨b1, 2, none⟩)) (d := 6) rfl rfl (congrArg Value.bool (decide_eq_true hb9)) (dv_fieldAddr (a := ⟨b1, 0, none⟩) (a' := ⟨b1, 2, none⟩) fo47_1 (T rfl rfl) rfl) ?_
   have H10 := (e7.blk n3.blk)
   refine lw_vy (.agg #[.int .i64 bx, .int .i64 b_y]) (d := 6) rfl rfl (congrArg Value.bool (decide_eq_true hb9)) (dv_loads (l := [.int .i64 bx, .int .i64 b_y]) agt45 sz45 (T rfl rfl) H10 rfl) ?_
   refine lw_ey (d := 6) rfl rfl (congrArg Value.bool (decide_eq_true hb9)) (oe_callf (vs := [.agg #[.int .i64 bx, .int .i64 b_y]]) co31 (ar1 (T rfl rfl)) (iSpotOk_ok (x := bx) (y := b_y)  ) ?_)
   rintro _ w11 ⟨rfl, e12⟩
   have E13 := below_ext E8 E8.size e12
   refine lw_v (.bool (decide (spotOk bx b_y))) (dv_pick_t (T rfl (congrArg Value.bool (decide_eq_true hb9))) (T rfl rfl)) ?_
   refine lw_v (.bool (decide (spotOk bx b_y))) (dv_move (T rfl rfl)) ?_
   by_cases hb14 : spotOk bx b_y
   · refine lw_vy (.pointer (some ⟨b1, 0, none⟩)) (d := 11) rfl rfl (congrArg Value.bool (decide_eq_true hb14)) (dv_fieldAddr (a := ⟨b1, 0, none⟩) (a' := ⟨b1, 0, none⟩) fo47_0 (T rfl rfl) rfl) ?_
     have H15 := (e12.blk H10)
     refine lw_vy (.agg #[.int .i64 ax, .int .i64 ay]) (d := 11) rfl rfl (congrArg Value.bool (decide_eq_true hb14)) (dv_loads (l := [.int .i64 ax, .int .i64 ay]) agt45 sz45 (T rfl rfl) H15 rfl) ?_
     refine lw_vy (.pointer (some ⟨b1, 2, none⟩)) (d := 11) rfl rfl (congrArg Value.bool (decide_eq_true hb14)) (dv_fieldAddr (a := ⟨b1, 0, none⟩) (a' := ⟨b1, 2, none⟩) fo47_1 (T rfl rfl) rfl) ?_
     refine lw_vy (.agg #[.int .i64 bx, .int .i64 b_y]) (d := 11) rfl rfl (congrArg Value.bool (decide_eq_true hb14)) (dv_loads (l := [.int .i64 bx, .int .i64 b_y]) agt45 sz45 (T rfl rfl) H15 rfl) ?_
     refine lw_ey (d := 11) rfl rfl (congrArg Value.bool (decide_eq_true hb14)) (oe_callf (vs := [.agg #[.int .i64 ax, .int .i64 ay], .agg #[.int .i64 bx, .int .i64 b_y]]) co84 (ar2 (T rfl rfl) (T rfl rfl)) (cmpSpots_ok (ax := ax) (ay := ay) (bx := bx) (b_y := b_y)  ) ?_)
     rintro _ w16 ⟨rfl, e17⟩
     have E18 := below_ext E13 E13.size e17
     refine lw_vy (.bool (decide ((cmpS ax ay bx b_y) < 0))) (d := 11) rfl rfl (congrArg Value.bool (decide_eq_true hb14)) (dv_lss (a := cmpS ax ay bx b_y) (b := 0) (T rfl rfl) C) ?_
     refine lw_v (.bool (decide ((cmpS ax ay bx b_y) < 0))) (dv_pick_t (T rfl (congrArg Value.bool (decide_eq_true hb14))) (T rfl rfl)) ?_
     refine lw_v (.bool (decide ((cmpS ax ay bx b_y) < 0))) (dv_assign (T rfl rfl)) ?_
     refine lw_nil ?_
     refine rk_ret Try.func30 (v := .bool (decide ((cmpS ax ay bx b_y) < 0))) (res1 Try.results30 (rv_tmp rfl rfl)) ⟨_, rfl, ?_⟩
     exact ⟨(vb (by grind [segOk, cmpS_neg])), E18⟩
   · refine lw_no (d := 11) rfl rfl (congrArg Value.bool (decide_eq_false hb14)) ?_
     refine lw_no (d := 11) rfl rfl (congrArg Value.bool (decide_eq_false hb14)) ?_
     refine lw_no (d := 11) rfl rfl (congrArg Value.bool (decide_eq_false hb14)) ?_
     refine lw_no (d := 11) rfl rfl (congrArg Value.bool (decide_eq_false hb14)) ?_
     refine lw_no (d := 11) rfl rfl (congrArg Value.bool (decide_eq_false hb14)) ?_
     refine lw_no (d := 11) rfl rfl (congrArg Value.bool (decide_eq_false hb14)) ?_
     refine lw_v (.bool false) (dv_pick_f (T rfl (congrArg Value.bool (decide_eq_false hb14))) C) ?_
     refine lw_v (.bool false) (dv_assign (T rfl rfl)) ?_
     refine lw_nil ?_
     refine rk_ret Try.func30 (v := .bool false) (res1 Try.results30 (rv_tmp rfl rfl)) ⟨_, rfl, ?_⟩
     exact ⟨(vf (by grind [segOk, cmpS_neg])), E13⟩
 · refine lw_no (d := 6) rfl rfl (congrArg Value.bool (decide_eq_false hb9)) ?_
   refine lw_no (d := 6) rfl rfl (congrArg Value.bool (decide_eq_false hb9)) ?_
   refine lw_no (d := 6) rfl rfl (congrArg Value.bool (decide_eq_false hb9)) ?_
   refine lw_v (.bool false) (dv_pick_f (T rfl (congrArg Value.bool (decide_eq_false hb9))) C) ?_
   refine lw_v (.bool false) (dv_move (T rfl rfl)) ?_
   refine lw_no (d := 11) rfl rfl (rfl) ?_
   refine lw_no (d := 11) rfl rfl (rfl) ?_
   refine lw_no (d := 11) rfl rfl (rfl) ?_
   refine lw_no (d := 11) rfl rfl (rfl) ?_
   refine lw_no (d := 11) rfl rfl (rfl) ?_
   refine lw_no (d := 11) rfl rfl (rfl) ?_
   refine lw_v (.bool false) (dv_pick_f (T rfl rfl) C) ?_
   refine lw_v (.bool false) (dv_assign (T rfl rfl)) ?_
   refine lw_nil ?_
   refine rk_ret Try.func30 (v := .bool false) (res1 Try.results30 (rv_tmp rfl rfl)) ⟨_, rfl, ?_⟩
   exact ⟨(vf (by grind [segOk, cmpS_neg])), E8⟩
set_option maxHeartbeats 1000000 in
theorem toSeg_ok {w : World} {ax ay bx b_y : Int}   : Ct Try.prog 24 [.agg #[.int .i64 ax, .int .i64 ay, .int .i64 bx, .int .i64 b_y]] w fun v w1 => v = .agg #[.int .i64 ax, .int .i64 ay, .int .i64 bx, .int .i64 b_y] ∧ Ext w w1 := by
 refine ct_run (n := 13) Try.func24 rfl Try.ntmps24 rfl ?_
 have E0 : Below w.heap.size w w := Below.refl _ _
 refine rk_seq ?_
 refine rk_reg ?_
 refine lw_e (oe_box (v := .agg #[.int .i64 ax, .int .i64 ay, .int .i64 bx, .int .i64 b_y]) (cs := #[.int .i64 ax, .int .i64 ay, .int .i64 bx, .int .i64 b_y]) (T rfl rfl) rfl ?_)
 intro b1 w2 n3
 have N4 : w.heap.size ≤ b1 := n3.eq ▸ E0.size
 have E5 := below_ext E0 E0.size n3.ext
 refine lw_e (oe_alloc ze47 ?_)
 intro b6 w7 n8
 have N9 : w.heap.size ≤ b6 := n8.eq ▸ E5.size
 have : b1 < b6 := n8.eq ▸ lt_of_blk n3.blk
 have E10 := below_ext E5 E5.size n8.ext
 refine lw_nil ?_
 refine rk_seq ?_
 refine rk_reg ?_
 refine lw_e (oe_alloc ze47 ?_)
 intro b11 w12 n13
 have N14 : w.heap.size ≤ b11 := n13.eq ▸ E10.size
 have : b6 < b11 := n13.eq ▸ lt_of_blk n8.blk
 have E15 := below_ext E10 E10.size n13.ext
 refine lw_nil ?_
 refine rk_seq ?_
 refine rk_reg ?_
 refine lw_v (.pointer (some ⟨b1, 0, none⟩)) (dv_fieldAddr (a := ⟨b1, 0, none⟩) (a' := ⟨b1, 0, none⟩) fo43_0 (T rfl rfl) rfl) ?_
 have H16 := (n13.ext.blk (n8.ext.blk n3.blk))
 refine lw_v (.agg #[.int .i64 ax, .int .i64 ay]) (dv_loads (l := [.int .i64 ax, .int .i64 ay]) agt41 sz41 (T rfl rfl) H16 rfl) ?_
 refine lw_e (oe_callf (vs := [.agg #[.int .i64 ax, .int .i64 ay]]) co45 (ar1 (T rfl rfl)) (toSpot_ok (x := ax) (y := ay)  ) ?_)
 rintro _ w17 ⟨rfl, e18⟩
 have E19 := below_ext E15 E15.size e18
 refine lw_v (.pointer (some ⟨b11, 0, none⟩)) (dv_fieldAddr (a := ⟨b11, 0, none⟩) (a' := ⟨b11, 0, none⟩) fo47_0 (T rfl rfl) rfl) ?_
 have H20 := (e18.blk n13.blk)
 refine lw_e (oe_store (v := .agg #[.int .i64 ax, .int .i64 ay]) (vs := [.int .i64 ax, .int .i64 ay]) (l := [.int .i64 ax, .int .i64 ay, .int .i64 0, .int .i64 0]) (T rfl rfl) (T rfl rfl) sz45 rfl rfl rfl H20 rfl ?_)
 intro w21 s22 H23
 have E24 := below_st E19 N14 s22
 refine lw_nil ?_
 refine rk_seq ?_
 refine rk_reg ?_
 refine lw_v (.pointer (some ⟨b1, 2, none⟩)) (dv_fieldAddr (a := ⟨b1, 0, none⟩) (a' := ⟨b1, 2, none⟩) fo43_1 (T rfl rfl) rfl) ?_
 have H25 := (s22.blk (e18.blk H16) (by omega))
 refine lw_v (.agg #[.int .i64 bx, .int .i64 b_y]) (dv_loads (l := [.int .i64 bx, .int .i64 b_y]) agt41 sz41 (T rfl rfl) H25 rfl) ?_
 refine lw_e (oe_callf (vs := [.agg #[.int .i64 bx, .int .i64 b_y]]) co45 (ar1 (T rfl rfl)) (toSpot_ok (x := bx) (y := b_y)  ) ?_)
 rintro _ w26 ⟨rfl, e27⟩
 have E28 := below_ext E24 E24.size e27
 refine lw_v (.pointer (some ⟨b11, 2, none⟩)) (dv_fieldAddr (a := ⟨b11, 0, none⟩) (a' := ⟨b11, 2, none⟩) fo47_1 (T rfl rfl) rfl) ?_
 have H29 := (e27.blk H23)
 refine lw_e (oe_store (v := .agg #[.int .i64 bx, .int .i64 b_y]) (vs := [.int .i64 bx, .int .i64 b_y]) (l := [.int .i64 ax, .int .i64 ay, .int .i64 bx, .int .i64 b_y]) (T rfl rfl) (T rfl rfl) sz45 rfl rfl rfl H29 rfl ?_)
 intro w30 s31 H32
 have E33 := below_st E28 N14 s31
 refine lw_nil ?_
 refine rk_seq ?_
 refine rk_reg ?_
 refine lw_v (.agg #[.int .i64 ax, .int .i64 ay, .int .i64 bx, .int .i64 b_y]) (dv_loads (l := [.int .i64 ax, .int .i64 ay, .int .i64 bx, .int .i64 b_y]) agt47 sz47 (T rfl rfl) H32 rfl) ?_
 have H34 := (s31.blk (e27.blk (s22.blk (e18.blk (n13.ext.blk n8.blk)) (by omega))) (by omega))
 refine lw_e (oe_store (v := .agg #[.int .i64 ax, .int .i64 ay, .int .i64 bx, .int .i64 b_y]) (vs := [.int .i64 ax, .int .i64 ay, .int .i64 bx, .int .i64 b_y]) (l := [.int .i64 ax, .int .i64 ay, .int .i64 bx, .int .i64 b_y]) (T rfl rfl) (T rfl rfl) sz47 rfl rfl rfl H34 rfl ?_)
 intro w35 s36 H37
 have E38 := below_st E33 N9 s36
 refine lw_nil ?_
 refine rk_ret Try.func24 (v := .agg #[.int .i64 ax, .int .i64 ay, .int .i64 bx, .int .i64 b_y]) (res1 Try.results24 (rv_cells (l := [.int .i64 ax, .int .i64 ay, .int .i64 bx, .int .i64 b_y]) agt47 sz47 rfl rfl H37 rfl)) ⟨_, rfl, ?_⟩
 exact ⟨rfl, E38⟩
set_option maxHeartbeats 1000000 in
theorem l3Spot_ok {w : World}  {x y : Int}  (hx : -9223372036854775808 ≤ x ∧ x ≤ 9223372036854775807) (hy : -9223372036854775808 ≤ y ∧ y ≤ 9223372036854775807) : Ct Try.prog 74 [.agg #[.int .i64 x, .int .i64 y]] w fun v w1 => ∃ nr0_ A0_ l0_ c0_ nr1_ A1_ l1_ c1_ nr2_ A2_ l2_ c2_, v = .agg #[.bool nr0_, .slice A0_ l0_ c0_, .bool nr1_, .slice A1_ l1_ c1_, .bool nr2_, .slice A2_ l2_ c2_] ∧ Ext w w1 ∧ Num 32 183 .u32 w1 nr0_ A0_ l0_ c0_ (x) (64) ∧ Num 32 183 .u32 w1 nr1_ A1_ l1_ c1_ (y) (64) ∧ Num 32 183 .u32 w1 nr2_ A2_ l2_ c2_ (1) (64) := by
 refine ct_run (n := 11) Try.func74 rfl Try.ntmps74 rfl ?_
 have E0 : Below w.heap.size w w := Below.refl _ _
 refine rk_seq ?_
 refine rk_reg ?_
 refine lw_e (oe_box (v := .agg #[.int .i64 x, .int .i64 y]) (cs := #[.int .i64 x, .int .i64 y]) (T rfl rfl) rfl ?_)
 intro b1 w2 n3
 have N4 : w.heap.size ≤ b1 := n3.eq ▸ E0.size
 have E5 := below_ext E0 E0.size n3.ext
 refine lw_e (oe_alloc ze102 ?_)
 intro b6 w7 n8
 have N9 : w.heap.size ≤ b6 := n8.eq ▸ E5.size
 have : b1 < b6 := n8.eq ▸ lt_of_blk n3.blk
 have E10 := below_ext E5 E5.size n8.ext
 refine lw_nil ?_
 refine rk_seq ?_
 refine rk_any (fun w => w.heap[b1]? = some (.cells #[.int .i64 x, .int .i64 y] 45)) [8] mo ?_
 intro w11 d12
 have E13 := below_ext E10 E10.size d12.ext
 have H14 := (d12.ext.blk (n8.ext.blk n3.blk))
 refine aw_pure 0 (.pointer (some ⟨b1, 0, none⟩)) rfl (by kernel_rfl) .none H14 (fun _ => dv_fieldAddr (a := ⟨b1, 0, none⟩) (a' := ⟨b1, 0, none⟩) fo45_0 (T rfl rfl) rfl) ?_
 refine aw_load 1 (.int .i64 x) rfl (by kernel_rfl) .none H14 (fun _ s => dv_load1 (b := b1) (o := 0) agt2 (T rfl rfl) s rfl) ?_
 refine aw_pure 3 (.pointer (some ⟨b1, 1, none⟩)) rfl (by kernel_rfl) .none H14 (fun _ => dv_fieldAddr (a := ⟨b1, 0, none⟩) (a' := ⟨b1, 1, none⟩) fo45_1 (T rfl rfl) rfl) ?_
 refine aw_load 4 (.int .i64 y) rfl (by kernel_rfl) .none H14 (fun _ s => dv_load1 (b := b1) (o := 1) agt2 (T rfl rfl) s rfl) ?_
 refine aw_one 2 rfl (by kernel_rfl) .none (oe_callf (vs := [.int .i64 x]) co100 (ar1 (T rfl rfl)) (l1Int_ok  (by omega)) ?_)
 rintro _ w20 ⟨nr15, A16, n17, c18, rfl, e21, h19⟩
 have E22 := below_ext E13 E13.size e21
 have lh19 := Num.len (by decide) h19
 have H23 := (e21.blk H14)
 refine ⟨.inr H23, ?_⟩
 refine aw_one 5 rfl (by kernel_rfl) .none (oe_callf (vs := [.int .i64 y]) co100 (ar1 (T rfl rfl)) (l1Int_ok  (by omega)) ?_)
 rintro _ w29 ⟨nr24, A25, n26, c27, rfl, e30, h28⟩
 have E31 := below_ext E22 E22.size e30
 have lh28 := Num.len (by decide) h28
 have H32 := (e30.blk H23)
 refine ⟨.inr H32, ?_⟩
 refine aw_one 6 rfl (by kernel_rfl) .none (oe_callf (vs := [.int .i64 1]) co100 (ar1 C) (l1Int_ok  (by omega)) ?_)
 rintro _ w38 ⟨nr33, A34, n35, c36, rfl, e39, h37⟩
 have E40 := below_ext E31 E31.size e39
 have lh37 := Num.len (by decide) h37
 have H41 := (e39.blk H32)
 refine ⟨.inr H41, ?_⟩
 refine aw_pure 7 (.agg #[.bool nr15, .slice A16 n17 c18, .bool nr24, .slice A25 n26 c27, .bool nr33, .slice A34 n35 c36]) rfl (by kernel_rfl) .none H41 (fun _ => dv_build (pv := [(0, .agg #[.bool nr15, .slice A16 n17 c18]), (1, .agg #[.bool nr24, .slice A25 n26 c27]), (2, .agg #[.bool nr33, .slice A34 n35 c36])]) (l := [.bool nr15, .slice A16 n17 c18, .bool nr24, .slice A25 n26 c27, .bool nr33, .slice A34 n35 c36]) zc102 pl102 ⟨rfl, (T rfl rfl), ⟨rfl, (T rfl rfl), ⟨rfl, (T rfl rfl), trivial⟩⟩⟩ rfl) ?_
 have H42 := (e39.blk (e30.blk (e21.blk (d12.ext.blk n8.blk))))
 refine aw_one 8 rfl (by kernel_rfl) .none (oe_store (v := .agg #[.bool nr15, .slice A16 n17 c18, .bool nr24, .slice A25 n26 c27, .bool nr33, .slice A34 n35 c36]) (vs := [.bool nr15, .slice A16 n17 c18, .bool nr24, .slice A25 n26 c27, .bool nr33, .slice A34 n35 c36]) (l := [.bool nr15, .slice A16 n17 c18, .bool nr24, .slice A25 n26 c27, .bool nr33, .slice A34 n35 c36]) (T rfl rfl) (T rfl rfl) sz102 rfl rfl rfl H42 rfl ?_)
 intro w43 s44 H45
 have E46 := below_st E40 N9 s44
 refine ⟨.inl rfl, ?_⟩
 refine aw_done (by kernel_rfl) ?_
 refine rk_ret Try.func74 (v := .agg #[.bool nr15, .slice A16 n17 c18, .bool nr24, .slice A25 n26 c27, .bool nr33, .slice A34 n35 c36]) (res1 Try.results74 (rv_cells (l := [.bool nr15, .slice A16 n17 c18, .bool nr24, .slice A25 n26 c27, .bool nr33, .slice A34 n35 c36]) agt102 sz102 rfl rfl H45 rfl)) ⟨_, rfl, ?_⟩
 have h47 := (((h19.ext e30).ext e39).st s44 H42 (by decide))
 have h48 := ((h28.ext e39).st s44 H42 (by decide))
 have h49 := (h37.st s44 H42 (by decide))
 exact ⟨_, _, _, _, _, _, _, _, _, _, _, _, rfl, E46, h47.to rfl (Nat.le_refl _), h48.to rfl (Nat.le_refl _), h49.to rfl (Nat.le_refl _)⟩
end Go.Proofs.Ytdanhdbanfpghaa.W
set_option linter.unusedVariables false
set_option linter.unusedSimpArgs false
namespace Go.Proofs.Ytdanhdbanfpghaa.W
open Go Go.RowKit Go.Proofs.Ytdanhdbanfpghaa.Fw
attribute [local irreducible] RunK LW AW DV OE Ct
theorem co113 : callOk Try.prog 113 = true := by kernel_rfl
theorem co117 : callOk Try.prog 117 = true := by kernel_rfl
theorem co67 : callOk Try.prog 67 = true := by kernel_rfl
theorem co68 : callOk Try.prog 68 = true := by kernel_rfl
theorem co73 : callOk Try.prog 73 = true := by kernel_rfl
theorem zc37 : zcB Try.prog 37 = some [.int .u64 0, .int .u64 0, .int .u64 0, .int .u64 0, .int .u64 0, .int .u64 0, .int .u64 0, .int .u64 0, .int .u64 0, .int .u64 0, .int .u64 0, .int .u64 0] := by kernel_rfl
set_option maxHeartbeats 1000000 in
theorem l3Between_ok {w : World}  {na : Bool} {Aa : Option Addr} {la ca : Nat} {x : Int} {sx : Nat} (ha : Num 32 183 .u32 w na Aa la ca x sx) {nb : Bool} {Ab : Option Addr} {lb cb : Nat} {y : Int} {sy : Nat} (hb : Num 32 183 .u32 w nb Ab lb cb y sy) {nm : Bool} {Am : Option Addr} {lm cm : Nat} {u : Int} {su : Nat} (hm : Num 32 183 .u32 w nm Am lm cm u su) {ne : Bool} {Ae : Option Addr} {le ce : Nat} {p : Int} {sp : Nat} (he : Num 32 183 .u32 w ne Ae le ce p sp) {nf : Bool} {Af : Option Addr} {lf cf : Nat} {q : Int} {sq : Nat} (hf : Num 32 183 .u32 w nf Af lf cf q sq) {ng : Bool} {Ag : Option Addr} {lg cg : Nat} {r : Int} {sr : Nat} (hg : Num 32 183 .u32 w ng Ag lg cg r sr) {ni : Bool} {Ai : Option Addr} {li ci : Nat} {xt : Int} {sd : Nat} (hi : Num 32 183 .u32 w ni Ai li ci xt sd) {nj : Bool} {Aj : Option Addr} {lj cj : Nat} {yt : Int} {se : Nat} (hj : Num 32 183 .u32 w nj Aj lj cj yt se) {nk : Bool} {Ak : Option Addr} {lk ck : Nat} {ut : Int} {st : Nat} (hk : Num 32 183 .u32 w nk Ak lk ck ut st) (hbsx : sx ≤ 10000) (hbsy : sy ≤ 10000) (hbsu : su ≤ 10000) (hbsp : sp ≤ 10000) (hbsq : sq ≤ 10000) (hbsr : sr ≤ 10000) (hbsd : sd ≤ 10000) (hbse : se ≤ 10000) (hbst : st ≤ 10000)  : Ct Try.prog 68 [.agg #[.bool na, .slice Aa la ca, .bool nb, .slice Ab lb cb, .bool nm, .slice Am lm cm], .agg #[.bool ne, .slice Ae le ce, .bool nf, .slice Af lf cf, .bool ng, .slice Ag lg cg], .agg #[.bool ni, .slice Ai li ci, .bool nj, .slice Aj lj cj, .bool nk, .slice Ak lk ck]] w fun v w1 => v = .bool (decide (btw x y u p q r xt yt ut)) ∧ Ext w w1 := by
 refine ct_run (n := 30) Try.func68 rfl Try.ntmps68 rfl ?_
 have E0 : Below w.heap.size w w := Below.refl _ _
 have lha := Num.len (by decide) ha
 have lhb := Num.len (by decide) hb
 have lhm := Num.len (by decide) hm
 have lhe := Num.len (by decide) he
 have lhf := Num.len (by decide) hf
 have lhg := Num.len (by decide) hg
 have lhi := Num.len (by decide) hi
 have lhj := Num.len (by decide) hj
 have lhk := Num.len (by decide) hk
 refine rk_seq ?_
 refine rk_reg ?_
 refine lw_e (oe_box (v := .agg #[.bool na, .slice Aa la ca, .bool nb, .slice Ab lb cb, .bool nm, .slice Am lm cm]) (cs := #[.bool na, .slice Aa la ca, .bool nb, .slice Ab lb cb, .bool nm, .slice Am lm cm]) (T rfl rfl) rfl ?_)
 intro b1 w2 n3
 have N4 : w.heap.size ≤ b1 := n3.eq ▸ E0.size
 have E5 := below_ext E0 E0.size n3.ext
 refine lw_e (oe_box (v := .agg #[.bool ne, .slice Ae le ce, .bool nf, .slice Af lf cf, .bool ng, .slice Ag lg cg]) (cs := #[.bool ne, .slice Ae le ce, .bool nf, .slice Af lf cf, .bool ng, .slice Ag lg cg]) (T rfl rfl) rfl ?_)
 intro b6 w7 n8
 have N9 : w.heap.size ≤ b6 := n8.eq ▸ E5.size
 have : b1 < b6 := n8.eq ▸ lt_of_blk n3.blk
 have E10 := below_ext E5 E5.size n8.ext
 refine lw_e (oe_box (v := .agg #[.bool ni, .slice Ai li ci, .bool nj, .slice Aj lj cj, .bool nk, .slice Ak lk ck]) (cs := #[.bool ni, .slice Ai li ci, .bool nj, .slice Aj lj cj, .bool nk, .slice Ak lk ck]) (T rfl rfl) rfl ?_)
 intro b11 w12 n13
 have N14 : w.heap.size ≤ b11 := n13.eq ▸ E10.size
 have : b6 < b11 := n13.eq ▸ lt_of_blk n8.blk
 have E15 := below_ext E10 E10.size n13.ext
 refine lw_v (.bool false) (dv_assign C) ?_
 refine lw_nil ?_
 refine rk_seq ?_
 refine rk_seq ?_
 refine rk_reg ?_
 have H16 := (n13.ext.blk (n8.ext.blk n3.blk))
 refine lw_v (.agg #[.bool na, .slice Aa la ca, .bool nb, .slice Ab lb cb, .bool nm, .slice Am lm cm]) (dv_loads (l := [.bool na, .slice Aa la ca, .bool nb, .slice Ab lb cb, .bool nm, .slice Am lm cm]) agt102 sz102 (T rfl rfl) H16 rfl) ?_
 have H17 := (n13.ext.blk n8.blk)
 refine lw_v (.agg #[.bool ne, .slice Ae le ce, .bool nf, .slice Af lf cf, .bool ng, .slice Ag lg cg]) (dv_loads (l := [.bool ne, .slice Ae le ce, .bool nf, .slice Af lf cf, .bool ng, .slice Ag lg cg]) agt102 sz102 (T rfl rfl) H17 rfl) ?_
 have h18 := (((ha.ext n3.ext).ext n8.ext).ext n13.ext)
 have h19 := (((hb.ext n3.ext).ext n8.ext).ext n13.ext)
 have h20 := (((hm.ext n3.ext).ext n8.ext).ext n13.ext)
 have h21 := (((he.ext n3.ext).ext n8.ext).ext n13.ext)
 have h22 := (((hf.ext n3.ext).ext n8.ext).ext n13.ext)
 have h23 := (((hg.ext n3.ext).ext n8.ext).ext n13.ext)
 refine lw_e (oe_callf (vs := [.agg #[.bool na, .slice Aa la ca, .bool nb, .slice Ab lb cb, .bool nm, .slice Am lm cm], .agg #[.bool ne, .slice Ae le ce, .bool nf, .slice Af lf cf, .bool ng, .slice Ag lg cg]]) co113 (ar2 (T rfl rfl) (T rfl rfl)) (l3Cmp_ok h18 h19 h20 h21 h22 h23 (by first | decide | omega) (by first | decide | omega) (by first | decide | omega) (by first | decide | omega) (by first | decide | omega) (by first | decide | omega) ) ?_)
 rintro _ w24 ⟨rfl, e25⟩
 have E26 := below_ext E15 E15.size e25
 refine lw_v (.bool (decide (0 < (pc x y u p q r)))) (dv_gtr (a := pc x y u p q r) (b := 0) (T rfl rfl) C) ?_
 refine lw_nil ?_
 by_cases hb27 : 0 < (pc x y u p q r)
 · refine rk_ct (T rfl (congrArg Value.bool (decide_eq_true hb27))) ?_
   refine rk_reg ?_
   have H28 := (e25.blk H17)
   refine lw_v (.agg #[.bool ne, .slice Ae le ce, .bool nf, .slice Af lf cf, .bool ng, .slice Ag lg cg]) (dv_loads (l := [.bool ne, .slice Ae le ce, .bool nf, .slice Af lf cf, .bool ng, .slice Ag lg cg]) agt102 sz102 (T rfl rfl) H28 rfl) ?_
   have H29 := (e25.blk H16)
   refine lw_v (.agg #[.bool na, .slice Aa la ca, .bool nb, .slice Ab lb cb, .bool nm, .slice Am lm cm]) (dv_loads (l := [.bool na, .slice Aa la ca, .bool nb, .slice Ab lb cb, .bool nm, .slice Am lm cm]) agt102 sz102 (T rfl rfl) H29 rfl) ?_
   refine lw_e (oe_store (v := .agg #[.bool ne, .slice Ae le ce, .bool nf, .slice Af lf cf, .bool ng, .slice Ag lg cg]) (vs := [.bool ne, .slice Ae le ce, .bool nf, .slice Af lf cf, .bool ng, .slice Ag lg cg]) (l := [.bool ne, .slice Ae le ce, .bool nf, .slice Af lf cf, .bool ng, .slice Ag lg cg]) (T rfl rfl) (T rfl rfl) sz102 rfl rfl rfl H29 rfl ?_)
   intro w30 s31 H32
   have E33 := below_st E26 N4 s31
   have H34 := (s31.blk H28 (by omega))
   refine lw_e (oe_store (v := .agg #[.bool na, .slice Aa la ca, .bool nb, .slice Ab lb cb, .bool nm, .slice Am lm cm]) (vs := [.bool na, .slice Aa la ca, .bool nb, .slice Ab lb cb, .bool nm, .slice Am lm cm]) (l := [.bool na, .slice Aa la ca, .bool nb, .slice Ab lb cb, .bool nm, .slice Am lm cm]) (T rfl rfl) (T rfl rfl) sz102 rfl rfl rfl H34 rfl ?_)
   intro w35 s36 H37
   have E38 := below_st E33 N9 s36
   refine lw_nil ?_
   refine rk_seq ?_
   refine rk_reg ?_
   have H39 := (s36.blk H32 (by omega))
   refine lw_v (.agg #[.bool ne, .slice Ae le ce, .bool nf, .slice Af lf cf, .bool ng, .slice Ag lg cg]) (dv_loads (l := [.bool ne, .slice Ae le ce, .bool nf, .slice Af lf cf, .bool ng, .slice Ag lg cg]) agt102 sz102 (T rfl rfl) H39 rfl) ?_
   have H40 := (s36.blk (s31.blk (e25.blk n13.blk) (by omega)) (by omega))
   refine lw_v (.agg #[.bool ni, .slice Ai li ci, .bool nj, .slice Aj lj cj, .bool nk, .slice Ak lk ck]) (dv_loads (l := [.bool ni, .slice Ai li ci, .bool nj, .slice Aj lj cj, .bool nk, .slice Ak lk ck]) agt102 sz102 (T rfl rfl) H40 rfl) ?_
   have h41 := he.ext E38
   have h42 := hf.ext E38
   have h43 := hg.ext E38
   have h44 := hi.ext E38
   have h45 := hj.ext E38
   have h46 := hk.ext E38
   refine lw_e (oe_callf (vs := [.agg #[.bool ne, .slice Ae le ce, .bool nf, .slice Af lf cf, .bool ng, .slice Ag lg cg], .agg #[.bool ni, .slice Ai li ci, .bool nj, .slice Aj lj cj, .bool nk, .slice Ak lk ck]]) co113 (ar2 (T rfl rfl) (T rfl rfl)) (l3Cmp_ok h41 h42 h43 h44 h45 h46 (by first | decide | omega) (by first | decide | omega) (by first | decide | omega) (by first | decide | omega) (by first | decide | omega) (by first | decide | omega) ) ?_)
   rintro _ w47 ⟨rfl, e48⟩
   have E49 := below_ext E38 E38.size e48
   refine lw_v (.bool (decide ((pc p q r xt yt ut) ≤ 0))) (dv_leq (a := pc p q r xt yt ut) (b := 0) (T rfl rfl) C) ?_
   refine lw_v (.bool (decide ((pc p q r xt yt ut) ≤ 0))) (dv_move (T rfl rfl)) ?_
   by_cases hb50 : (pc p q r xt yt ut) ≤ 0
   · have H51 := (e48.blk H40)
     refine lw_vy (.agg #[.bool ni, .slice Ai li ci, .bool nj, .slice Aj lj cj, .bool nk, .slice Ak lk ck]) (d := 17) rfl rfl (congrArg Value.bool (decide_eq_true hb50)) (dv_loads (l := [.bool ni, .slice Ai li ci, .bool nj, .slice Aj lj cj, .bool nk, .slice Ak lk ck]) agt102 sz102 (T rfl rfl) H51 rfl) ?_
     have H52 := (e48.blk H37)
     refine lw_vy (.agg #[.bool na, .slice Aa la ca, .bool nb, .slice Ab lb cb, .bool nm, .slice Am lm cm]) (d := 17) rfl rfl (congrArg Value.bool (decide_eq_true hb50)) (dv_loads (l := [.bool na, .slice Aa la ca, .bool nb, .slice Ab lb cb, .bool nm, .slice Am lm cm]) agt102 sz102 (T rfl rfl) H52 rfl) ?_
     have h53 := (h44.ext e48)
     have h54 := (h45.ext e48)
     have h55 := (h46.ext e48)
     have h56 := ha.ext E49
     have h57 := hb.ext E49
     have h58 := hm.ext E49
     refine lw_ey (d := 17) rfl rfl (congrArg Value.bool (decide_eq_true hb50)) (oe_callf (vs := [.agg #[.bool ni, .slice Ai li ci, .bool nj, .slice Aj lj cj, .bool nk, .slice Ak lk ck], .agg #[.bool na, .slice Aa la ca, .bool nb, .slice Ab lb cb, .bool nm, .slice Am lm cm]]) co113 (ar2 (T rfl rfl) (T rfl rfl)) (l3Cmp_ok h53 h54 h55 h56 h57 h58 (by first | decide | omega) (by first | decide | omega) (by first | decide | omega) (by first | decide | omega) (by first | decide | omega) (by first | decide | omega) ) ?_)
     rintro _ w59 ⟨rfl, e60⟩
     have E61 := below_ext E49 E49.size e60
     refine lw_vy (.bool (decide ((pc xt yt ut x y u) ≤ 0))) (d := 17) rfl rfl (congrArg Value.bool (decide_eq_true hb50)) (dv_leq (a := pc xt yt ut x y u) (b := 0) (T rfl rfl) C) ?_
     refine lw_v (.bool (decide ((pc xt yt ut x y u) ≤ 0))) (dv_pick_t (T rfl (congrArg Value.bool (decide_eq_true hb50))) (T rfl rfl)) ?_
     refine lw_v (.bool (decide ((pc xt yt ut x y u) ≤ 0))) (dv_move (T rfl rfl)) ?_
     by_cases hb62 : (pc xt yt ut x y u) ≤ 0
     · have H63 := (e60.blk (e48.blk H39))
       refine lw_vy (.agg #[.bool ne, .slice Ae le ce, .bool nf, .slice Af lf cf, .bool ng, .slice Ag lg cg]) (d := 23) rfl rfl (congrArg Value.bool (decide_eq_true hb62)) (dv_loads (l := [.bool ne, .slice Ae le ce, .bool nf, .slice Af lf cf, .bool ng, .slice Ag lg cg]) agt102 sz102 (T rfl rfl) H63 rfl) ?_
       have H64 := (e60.blk H52)
       refine lw_vy (.agg #[.bool na, .slice Aa la ca, .bool nb, .slice Ab lb cb, .bool nm, .slice Am lm cm]) (d := 23) rfl rfl (congrArg Value.bool (decide_eq_true hb62)) (dv_loads (l := [.bool na, .slice Aa la ca, .bool nb, .slice Ab lb cb, .bool nm, .slice Am lm cm]) agt102 sz102 (T rfl rfl) H64 rfl) ?_
       have H65 := (e60.blk H51)
       refine lw_vy (.agg #[.bool ni, .slice Ai li ci, .bool nj, .slice Aj lj cj, .bool nk, .slice Ak lk ck]) (d := 23) rfl rfl (congrArg Value.bool (decide_eq_true hb62)) (dv_loads (l := [.bool ni, .slice Ai li ci, .bool nj, .slice Aj lj cj, .bool nk, .slice Ak lk ck]) agt102 sz102 (T rfl rfl) H65 rfl) ?_
       have h66 := ((h41.ext e48).ext e60)
       have h67 := ((h42.ext e48).ext e60)
       have h68 := ((h43.ext e48).ext e60)
       have h69 := (h56.ext e60)
       have h70 := (h57.ext e60)
       have h71 := (h58.ext e60)
       have h72 := (h53.ext e60)
       have h73 := (h54.ext e60)
       have h74 := (h55.ext e60)
       refine lw_ey (d := 23) rfl rfl (congrArg Value.bool (decide_eq_true hb62)) (oe_callf (vs := [.agg #[.bool ne, .slice Ae le ce, .bool nf, .slice Af lf cf, .bool ng, .slice Ag lg cg], .agg #[.bool na, .slice Aa la ca, .bool nb, .slice Ab lb cb, .bool nm, .slice Am lm cm], .agg #[.bool ni, .slice Ai li ci, .bool nj, .slice Aj lj cj, .bool nk, .slice Ak lk ck]]) co73 (ar3 (T rfl rfl) (T rfl rfl) (T rfl rfl)) (l3Orient_ok h66 h67 h68 h69 h70 h71 h72 h73 h74 (by first | decide | omega) (by first | decide | omega) (by first | decide | omega) (by first | decide | omega) (by first | decide | omega) (by first | decide | omega) (by first | decide | omega) (by first | decide | omega) (by first | decide | omega) ) ?_)
       rintro _ w75 ⟨rfl, e76⟩
       have E77 := below_ext E61 E61.size e76
       have := ori_rg p q r x y u xt yt ut
       refine lw_vy (.bool (decide ((ori p q r x y u xt yt ut) = 0))) (d := 23) rfl rfl (congrArg Value.bool (decide_eq_true hb62)) (dv_eql (a := ori p q r x y u xt yt ut) (b := 0) (T rfl rfl) C) ?_
       refine lw_v (.bool (decide ((ori p q r x y u xt yt ut) = 0))) (dv_pick_t (T rfl (congrArg Value.bool (decide_eq_true hb62))) (T rfl rfl)) ?_
       refine lw_v (.bool (decide ((ori p q r x y u xt yt ut) = 0))) (dv_assign (T rfl rfl)) ?_
       refine lw_nil ?_
       refine rk_ret Try.func68 (v := .bool (decide ((ori p q r x y u xt yt ut) = 0))) (res1 Try.results68 (rv_tmp rfl rfl)) ⟨_, rfl, ?_⟩
       exact ⟨(vb (by unfold btw; omega)), E77⟩
     · refine lw_no (d := 23) rfl rfl (congrArg Value.bool (decide_eq_false hb62)) ?_
       refine lw_no (d := 23) rfl rfl (congrArg Value.bool (decide_eq_false hb62)) ?_
       refine lw_no (d := 23) rfl rfl (congrArg Value.bool (decide_eq_false hb62)) ?_
       refine lw_no (d := 23) rfl rfl (congrArg Value.bool (decide_eq_false hb62)) ?_
       refine lw_no (d := 23) rfl rfl (congrArg Value.bool (decide_eq_false hb62)) ?_
       refine lw_v (.bool false) (dv_pick_f (T rfl (congrArg Value.bool (decide_eq_false hb62))) C) ?_
       refine lw_v (.bool false) (dv_assign (T rfl rfl)) ?_
       refine lw_nil ?_
       refine rk_ret Try.func68 (v := .bool false) (res1 Try.results68 (rv_tmp rfl rfl)) ⟨_, rfl, ?_⟩
       exact ⟨(vf (by unfold btw; omega)), E61⟩
   · refine lw_no (d := 17) rfl rfl (congrArg Value.bool (decide_eq_false hb50)) ?_
     refine lw_no (d := 17) rfl rfl (congrArg Value.bool (decide_eq_false hb50)) ?_
     refine lw_no (d := 17) rfl rfl (congrArg Value.bool (decide_eq_false hb50)) ?_
     refine lw_no (d := 17) rfl rfl (congrArg Value.bool (decide_eq_false hb50)) ?_
     refine lw_v (.bool false) (dv_pick_f (T rfl (congrArg Value.bool (decide_eq_false hb50))) C) ?_
     refine lw_v (.bool false) (dv_move (T rfl rfl)) ?_
     refine lw_no (d := 23) rfl rfl (rfl) ?_
     refine lw_no (d := 23) rfl rfl (rfl) ?_
     refine lw_no (d := 23) rfl rfl (rfl) ?_
     refine lw_no (d := 23) rfl rfl (rfl) ?_
     refine lw_no (d := 23) rfl rfl (rfl) ?_
     refine lw_v (.bool false) (dv_pick_f (T rfl rfl) C) ?_
     refine lw_v (.bool false) (dv_assign (T rfl rfl)) ?_
     refine lw_nil ?_
     refine rk_ret Try.func68 (v := .bool false) (res1 Try.results68 (rv_tmp rfl rfl)) ⟨_, rfl, ?_⟩
     exact ⟨(vf (by unfold btw; omega)), E49⟩
 · refine rk_cf (T rfl (congrArg Value.bool (decide_eq_false hb27))) ?_
   refine rk_skip ?_
   refine rk_seq ?_
   refine rk_reg ?_
   have H78 := (e25.blk H16)
   refine lw_v (.agg #[.bool na, .slice Aa la ca, .bool nb, .slice Ab lb cb, .bool nm, .slice Am lm cm]) (dv_loads (l := [.bool na, .slice Aa la ca, .bool nb, .slice Ab lb cb, .bool nm, .slice Am lm cm]) agt102 sz102 (T rfl rfl) H78 rfl) ?_
   have H79 := (e25.blk n13.blk)
   refine lw_v (.agg #[.bool ni, .slice Ai li ci, .bool nj, .slice Aj lj cj, .bool nk, .slice Ak lk ck]) (dv_loads (l := [.bool ni, .slice Ai li ci, .bool nj, .slice Aj lj cj, .bool nk, .slice Ak lk ck]) agt102 sz102 (T rfl rfl) H79 rfl) ?_
   have h80 := (h18.ext e25)
   have h81 := (h19.ext e25)
   have h82 := (h20.ext e25)
   have h83 := ((((hi.ext n3.ext).ext n8.ext).ext n13.ext).ext e25)
   have h84 := ((((hj.ext n3.ext).ext n8.ext).ext n13.ext).ext e25)
   have h85 := ((((hk.ext n3.ext).ext n8.ext).ext n13.ext).ext e25)
   refine lw_e (oe_callf (vs := [.agg #[.bool na, .slice Aa la ca, .bool nb, .slice Ab lb cb, .bool nm, .slice Am lm cm], .agg #[.bool ni, .slice Ai li ci, .bool nj, .slice Aj lj cj, .bool nk, .slice Ak lk ck]]) co113 (ar2 (T rfl rfl) (T rfl rfl)) (l3Cmp_ok h80 h81 h82 h83 h84 h85 (by first | decide | omega) (by first | decide | omega) (by first | decide | omega) (by first | decide | omega) (by first | decide | omega) (by first | decide | omega) ) ?_)
   rintro _ w86 ⟨rfl, e87⟩
   have E88 := below_ext E26 E26.size e87
   refine lw_v (.bool (decide ((pc x y u xt yt ut) ≤ 0))) (dv_leq (a := pc x y u xt yt ut) (b := 0) (T rfl rfl) C) ?_
   refine lw_v (.bool (decide ((pc x y u xt yt ut) ≤ 0))) (dv_move (T rfl rfl)) ?_
   by_cases hb89 : (pc x y u xt yt ut) ≤ 0
   · have H90 := (e87.blk H79)
     refine lw_vy (.agg #[.bool ni, .slice Ai li ci, .bool nj, .slice Aj lj cj, .bool nk, .slice Ak lk ck]) (d := 17) rfl rfl (congrArg Value.bool (decide_eq_true hb89)) (dv_loads (l := [.bool ni, .slice Ai li ci, .bool nj, .slice Aj lj cj, .bool nk, .slice Ak lk ck]) agt102 sz102 (T rfl rfl) H90 rfl) ?_
     have H91 := (e87.blk (e25.blk H17))
     refine lw_vy (.agg #[.bool ne, .slice Ae le ce, .bool nf, .slice Af lf cf, .bool ng, .slice Ag lg cg]) (d := 17) rfl rfl (congrArg Value.bool (decide_eq_true hb89)) (dv_loads (l := [.bool ne, .slice Ae le ce, .bool nf, .slice Af lf cf, .bool ng, .slice Ag lg cg]) agt102 sz102 (T rfl rfl) H91 rfl) ?_
     have h92 := (h83.ext e87)
     have h93 := (h84.ext e87)
     have h94 := (h85.ext e87)
     have h95 := ((h21.ext e25).ext e87)
     have h96 := ((h22.ext e25).ext e87)
     have h97 := ((h23.ext e25).ext e87)
     refine lw_ey (d := 17) rfl rfl (congrArg Value.bool (decide_eq_true hb89)) (oe_callf (vs := [.agg #[.bool ni, .slice Ai li ci, .bool nj, .slice Aj lj cj, .bool nk, .slice Ak lk ck], .agg #[.bool ne, .slice Ae le ce, .bool nf, .slice Af lf cf, .bool ng, .slice Ag lg cg]]) co113 (ar2 (T rfl rfl) (T rfl rfl)) (l3Cmp_ok h92 h93 h94 h95 h96 h97 (by first | decide | omega) (by first | decide | omega) (by first | decide | omega) (by first | decide | omega) (by first | decide | omega) (by first | decide | omega) ) ?_)
     rintro _ w98 ⟨rfl, e99⟩
     have E100 := below_ext E88 E88.size e99
     refine lw_vy (.bool (decide ((pc xt yt ut p q r) ≤ 0))) (d := 17) rfl rfl (congrArg Value.bool (decide_eq_true hb89)) (dv_leq (a := pc xt yt ut p q r) (b := 0) (T rfl rfl) C) ?_
     refine lw_v (.bool (decide ((pc xt yt ut p q r) ≤ 0))) (dv_pick_t (T rfl (congrArg Value.bool (decide_eq_true hb89))) (T rfl rfl)) ?_
     refine lw_v (.bool (decide ((pc xt yt ut p q r) ≤ 0))) (dv_move (T rfl rfl)) ?_
     by_cases hb101 : (pc xt yt ut p q r) ≤ 0
     · have H102 := (e99.blk (e87.blk H78))
       refine lw_vy (.agg #[.bool na, .slice Aa la ca, .bool nb, .slice Ab lb cb, .bool nm, .slice Am lm cm]) (d := 23) rfl rfl (congrArg Value.bool (decide_eq_true hb101)) (dv_loads (l := [.bool na, .slice Aa la ca, .bool nb, .slice Ab lb cb, .bool nm, .slice Am lm cm]) agt102 sz102 (T rfl rfl) H102 rfl) ?_
       have H103 := (e99.blk H91)
       refine lw_vy (.agg #[.bool ne, .slice Ae le ce, .bool nf, .slice Af lf cf, .bool ng, .slice Ag lg cg]) (d := 23) rfl rfl (congrArg Value.bool (decide_eq_true hb101)) (dv_loads (l := [.bool ne, .slice Ae le ce, .bool nf, .slice Af lf cf, .bool ng, .slice Ag lg cg]) agt102 sz102 (T rfl rfl) H103 rfl) ?_
       have H104 := (e99.blk H90)
       refine lw_vy (.agg #[.bool ni, .slice Ai li ci, .bool nj, .slice Aj lj cj, .bool nk, .slice Ak lk ck]) (d := 23) rfl rfl (congrArg Value.bool (decide_eq_true hb101)) (dv_loads (l := [.bool ni, .slice Ai li ci, .bool nj, .slice Aj lj cj, .bool nk, .slice Ak lk ck]) agt102 sz102 (T rfl rfl) H104 rfl) ?_
       have h105 := ((h80.ext e87).ext e99)
       have h106 := ((h81.ext e87).ext e99)
       have h107 := ((h82.ext e87).ext e99)
       have h108 := (h95.ext e99)
       have h109 := (h96.ext e99)
       have h110 := (h97.ext e99)
       have h111 := (h92.ext e99)
       have h112 := (h93.ext e99)
       have h113 := (h94.ext e99)
       refine lw_ey (d := 23) rfl rfl (congrArg Value.bool (decide_eq_true hb101)) (oe_callf (vs := [.agg #[.bool na, .slice Aa la ca, .bool nb, .slice Ab lb cb, .bool nm, .slice Am lm cm], .agg #[.bool ne, .slice Ae le ce, .bool nf, .slice Af lf cf, .bool ng, .slice Ag lg cg], .agg #[.bool ni, .slice Ai li ci, .bool nj, .slice Aj lj cj, .bool nk, .slice Ak lk ck]]) co73 (ar3 (T rfl rfl) (T rfl rfl) (T rfl rfl)) (l3Orient_ok h105 h106 h107 h108 h109 h110 h111 h112 h113 (by first | decide | omega) (by first | decide | omega) (by first | decide | omega) (by first | decide | omega) (by first | decide | omega) (by first | decide | omega) (by first | decide | omega) (by first | decide | omega) (by first | decide | omega) ) ?_)
       rintro _ w114 ⟨rfl, e115⟩
       have E116 := below_ext E100 E100.size e115
       have := ori_rg x y u p q r xt yt ut
       refine lw_vy (.bool (decide ((ori x y u p q r xt yt ut) = 0))) (d := 23) rfl rfl (congrArg Value.bool (decide_eq_true hb101)) (dv_eql (a := ori x y u p q r xt yt ut) (b := 0) (T rfl rfl) C) ?_
       refine lw_v (.bool (decide ((ori x y u p q r xt yt ut) = 0))) (dv_pick_t (T rfl (congrArg Value.bool (decide_eq_true hb101))) (T rfl rfl)) ?_
       refine lw_v (.bool (decide ((ori x y u p q r xt yt ut) = 0))) (dv_assign (T rfl rfl)) ?_
       refine lw_nil ?_
       refine rk_ret Try.func68 (v := .bool (decide ((ori x y u p q r xt yt ut) = 0))) (res1 Try.results68 (rv_tmp rfl rfl)) ⟨_, rfl, ?_⟩
       exact ⟨(vb (by unfold btw; omega)), E116⟩
     · refine lw_no (d := 23) rfl rfl (congrArg Value.bool (decide_eq_false hb101)) ?_
       refine lw_no (d := 23) rfl rfl (congrArg Value.bool (decide_eq_false hb101)) ?_
       refine lw_no (d := 23) rfl rfl (congrArg Value.bool (decide_eq_false hb101)) ?_
       refine lw_no (d := 23) rfl rfl (congrArg Value.bool (decide_eq_false hb101)) ?_
       refine lw_no (d := 23) rfl rfl (congrArg Value.bool (decide_eq_false hb101)) ?_
       refine lw_v (.bool false) (dv_pick_f (T rfl (congrArg Value.bool (decide_eq_false hb101))) C) ?_
       refine lw_v (.bool false) (dv_assign (T rfl rfl)) ?_
       refine lw_nil ?_
       refine rk_ret Try.func68 (v := .bool false) (res1 Try.results68 (rv_tmp rfl rfl)) ⟨_, rfl, ?_⟩
       exact ⟨(vf (by unfold btw; omega)), E100⟩
   · refine lw_no (d := 17) rfl rfl (congrArg Value.bool (decide_eq_false hb89)) ?_
     refine lw_no (d := 17) rfl rfl (congrArg Value.bool (decide_eq_false hb89)) ?_
     refine lw_no (d := 17) rfl rfl (congrArg Value.bool (decide_eq_false hb89)) ?_
     refine lw_no (d := 17) rfl rfl (congrArg Value.bool (decide_eq_false hb89)) ?_
     refine lw_v (.bool false) (dv_pick_f (T rfl (congrArg Value.bool (decide_eq_false hb89))) C) ?_
     refine lw_v (.bool false) (dv_move (T rfl rfl)) ?_
     refine lw_no (d := 23) rfl rfl (rfl) ?_
     refine lw_no (d := 23) rfl rfl (rfl) ?_
     refine lw_no (d := 23) rfl rfl (rfl) ?_
     refine lw_no (d := 23) rfl rfl (rfl) ?_
     refine lw_no (d := 23) rfl rfl (rfl) ?_
     refine lw_v (.bool false) (dv_pick_f (T rfl rfl) C) ?_
     refine lw_v (.bool false) (dv_assign (T rfl rfl)) ?_
     refine lw_nil ?_
     refine rk_ret Try.func68 (v := .bool false) (res1 Try.results68 (rv_tmp rfl rfl)) ⟨_, rfl, ?_⟩
     exact ⟨(vf (by unfold btw; omega)), E88⟩
end Go.Proofs.Ytdanhdbanfpghaa.W
