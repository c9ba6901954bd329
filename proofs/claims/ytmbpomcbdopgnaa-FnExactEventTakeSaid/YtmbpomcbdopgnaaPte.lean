/- Walks and plain mathematics, packed by a program of this session: declarations that the rows reach. -/
import Derived.Test.YtmbpomcbdopgnaaPtd
set_option linter.unusedVariables false
set_option linter.unusedSimpArgs false
namespace Go.Proofs.Ytmbpomcbdopgnaa.W
open Go Go.RowKit Go.Proofs.Ytmbpomcbdopgnaa.Fw
attribute [local irreducible] RunK LW AW DV OE Ct
theorem us172 : Try.prog.underlying 172 = some (.slice 107) := by kernel_rfl
set_option maxHeartbeats 1000000 in
theorem l1Gcd_ok {w : World} {na : Bool} {Aa : Option Addr} {la ca : Nat} {x : Int} {sx : Nat} (ha : Num 32 168 .u32 w na Aa la ca x sx) {nb : Bool} {Ab : Option Addr} {lb cb : Nat} {y : Int} {sy : Nat} (hb : Num 32 168 .u32 w nb Ab lb cb y sy) (hs : sx ≤ 200000) (hs2 : sy ≤ 200000) : Ct Try.prog 98 [.agg #[.bool na, .slice Aa la ca], .agg #[.bool nb, .slice Ab lb cb]] w fun v w1 => ∃ nr A' n c', v = .agg #[.bool nr, .slice A' n c'] ∧ Ext w w1 ∧ Num 32 168 .u32 w1 nr A' n c' (gI x y) (max sx sy) := by
 refine ct_run (n := 26) Try.func98 rfl Try.ntmps98 rfl ?_
 have E0 : Below w.heap.size w w := Below.refl _ _
 have lha := Num.len (by decide) ha
 have lhb := Num.len (by decide) hb
 refine rk_seq ?_
 refine rk_reg ?_
 refine lw_e (oe_box (v := .agg #[.bool na, .slice Aa la ca]) (cs := #[.bool na, .slice Aa la ca]) (T rfl rfl) rfl ?_)
 intro b1 w2 n3
 have N4 : w.heap.size ≤ b1 := n3.eq ▸ E0.size
 have E5 := below_ext E0 E0.size n3.ext
 refine lw_e (oe_box (v := .agg #[.bool nb, .slice Ab lb cb]) (cs := #[.bool nb, .slice Ab lb cb]) (T rfl rfl) rfl ?_)
 intro b6 w7 n8
 have N9 : w.heap.size ≤ b6 := n8.eq ▸ E5.size
 have : b1 < b6 := n8.eq ▸ lt_of_blk n3.blk
 have E10 := below_ext E5 E5.size n8.ext
 refine lw_e (oe_alloc ze88 ?_)
 intro b11 w12 n13
 have N14 : w.heap.size ≤ b11 := n13.eq ▸ E10.size
 have : b6 < b11 := n13.eq ▸ lt_of_blk n8.blk
 have E15 := below_ext E10 E10.size n13.ext
 refine lw_nil ?_
 refine rk_seq ?_
 refine rk_reg ?_
 refine lw_v (.pointer (some ⟨b1, 1, none⟩)) (dv_fieldAddr (a := ⟨b1, 0, none⟩) (a' := ⟨b1, 1, none⟩) fo88_1 (T rfl rfl) rfl) ?_
 have H16 := (n13.ext.blk (n8.ext.blk n3.blk))
 refine lw_v (.slice Aa la ca) (dv_load1 (b := b1) (o := 1) agt86 (T rfl rfl) H16 rfl) ?_
 refine lw_v (.slice Aa la ca) (dv_assign (T rfl rfl)) ?_
 refine lw_nil ?_
 refine rk_seq ?_
 refine rk_reg ?_
 refine lw_v (.pointer (some ⟨b6, 1, none⟩)) (dv_fieldAddr (a := ⟨b6, 0, none⟩) (a' := ⟨b6, 1, none⟩) fo88_1 (T rfl rfl) rfl) ?_
 have H17 := (n13.ext.blk n8.blk)
 refine lw_v (.slice Ab lb cb) (dv_load1 (b := b6) (o := 1) agt86 (T rfl rfl) H17 rfl) ?_
 refine lw_v (.slice Ab lb cb) (dv_assign (T rfl rfl)) ?_
 refine lw_nil ?_
 refine rk_seq ?_
 refine rk_block ?_
 have h26 := (((ha.ext n3.ext).ext n8.ext).ext n13.ext)
 have h27 := (((hb.ext n3.ext).ext n8.ext).ext n13.ext)
 refine rk_loop (fun dm_ fr wl => ∃ (Ax18 : Option Addr) (lx19 cx20 : Nat) (Ay21 : Option Addr) (ly22 cy23 : Nat) (X24 Y25 : Int), dm_ = Y25.toNat ∧ fr 4 = .pointer (some ⟨b11, 0, none⟩) ∧ fr 5 = .slice Ax18 lx19 cx20 ∧ fr 6 = .slice Ay21 ly22 cy23 ∧ Below w.heap.size w wl ∧ wl.heap[b1]? = some (.cells #[.bool na, .slice Aa la ca] 88) ∧ wl.heap[b6]? = some (.cells #[.bool nb, .slice Ab lb cb] 88) ∧ wl.heap[b11]? = some (.cells #[.bool false, .slice none 0 0] 88) ∧ Wc 32 168 .u32 wl Ax18 lx19 cx20 X24 ∧ Wc 32 168 .u32 wl Ay21 ly22 cy23 Y25 ∧ (gI X24 Y25 = gI ((x.natAbs : Int)) ((y.natAbs : Int))) ∧ (X24 < 2 ^ (max sx sy)) ∧ (Y25 < 2 ^ (max sx sy))) ((((y.natAbs : Int))).toNat) ⟨Aa, la, ca, Ab, lb, cb, ((x.natAbs : Int)), ((y.natAbs : Int)), rfl, rfl, rfl, rfl, E15, H16, H17, n13.blk, h26.wc, h27.wc, rfl, (Int.lt_of_lt_of_le h26.ltI (pow_le_of (by decide) (by omega))), (Int.lt_of_lt_of_le h27.ltI (pow_le_of (by decide) (by omega)))⟩ ?_
 intro d32 fr31 w28 hI29 ih30
 obtain ⟨Ax18, lx19, cx20, Ay21, ly22, cy23, X24, Y25, hd42, f33, f34, f35, E36, H37, H38, H39, h40, h41, hgc, hXs, hYs⟩ := hI29
 have hXp := h40.nonneg
 have hYp := h41.pos
 have hYn := h41.nonneg
 have hlx := Wc.len (by decide) h40 hXs
 have hly := Wc.len (by decide) h41 hYs
 refine rk_seq ?_
 refine rk_seq ?_
 refine rk_reg ?_
 refine lw_v (.slice Ay21 ly22 cy23) (dv_move (T rfl f35)) ?_
 refine lw_v (.int .i64 ((ly22 : Int))) (dv_len (ad := Ay21) (l := ly22) (c := cy23) us86 (T rfl rfl)) ?_
 refine lw_v (.bool (decide (0 < ((ly22 : Int))))) (dv_gtr (a := (ly22 : Int)) (b := 0) (T rfl rfl) C) ?_
 refine lw_nil ?_
 by_cases hb43 : 0 < ((ly22 : Int))
 · refine rk_ct (T rfl (congrArg Value.bool (decide_eq_true hb43))) ?_
   refine rk_skip ?_
   refine rk_block ?_
   refine rk_seq ?_
   refine rk_reg ?_
   refine lw_v (.slice Ax18 lx19 cx20) (dv_move (T rfl f34)) ?_
   refine lw_v (.slice Ay21 ly22 cy23) (dv_move (T rfl f35)) ?_
   refine lw_e (oe_callf (vs := [.slice Ax18 lx19 cx20, .slice Ay21 ly22 cy23]) co130 (ar2 (T rfl rfl) (T rfl rfl)) (l1DivAbs_ok h40 h41 (by omega) hXs hYs (by omega) (by omega)) ?_)
   rintro _ w52 ⟨A44, n45, c46, A47, n48, c49, rfl, e53, h50, h51⟩
   have E54 := below_ext E36 E36.size e53
   have lh50 := Wc.len (by decide) h50 (div_sz (Wc.nonneg h40) (by omega) hXs)
   have lh51 := Wc.len (by decide) h51 (mod_sz (by omega) hYs)
   refine lw_v (.tuple #[.slice A44 n45 c46, .slice A47 n48 c49]) (dv_move (T rfl rfl)) ?_
   refine lw_v (.slice A44 n45 c46) (dv_extract (vs := #[.slice A44 n45 c46, .slice A47 n48 c49]) (T rfl rfl) rfl) ?_
   refine lw_v (.slice A47 n48 c49) (dv_extract (vs := #[.slice A44 n45 c46, .slice A47 n48 c49]) (T rfl rfl) rfl) ?_
   refine lw_v (.slice A44 n45 c46) (dv_assign (T rfl rfl)) ?_
   refine lw_v (.slice A47 n48 c49) (dv_assign (T rfl rfl)) ?_
   refine lw_nil ?_
   refine rk_reg ?_
   refine lw_v (.slice Ay21 ly22 cy23) (dv_move (T rfl f35)) ?_
   refine lw_v (.slice A47 n48 c49) (dv_move (T rfl rfl)) ?_
   refine lw_v (.slice Ay21 ly22 cy23) (dv_assign (T rfl rfl)) ?_
   refine lw_v (.slice A47 n48 c49) (dv_assign (T rfl rfl)) ?_
   refine lw_nil ?_
   refine rk_inBlock ?_
   have h55 := (h41.ext e53)
   have hml := Int.emod_lt_of_pos X24 (hYp.1 (by omega))
   have hmn := Int.emod_nonneg X24 (show Y25 ≠ 0 by omega)
   have H56 := (e53.blk H37)
   have H57 := (e53.blk H38)
   have H58 := (e53.blk H39)
   exact ih30 (((X24 % Y25)).toNat) _ _ (by rw [hd42]; omega) ⟨Ay21, ly22, cy23, A47, n48, c49, Y25, (X24 % Y25), rfl, f33, rfl, rfl, E54, H56, H57, H58, h55, h51, (by rw [gI_step]; exact hgc), hYs, (by omega)⟩
 · refine rk_cf (T rfl (congrArg Value.bool (decide_eq_false hb43))) ?_
   refine rk_exit rfl ?_
   refine rk_seq ?_
   refine rk_reg ?_
   refine lw_v (.slice Ax18 lx19 cx20) (dv_move (T rfl f34)) ?_
   refine lw_e (oe_callf (vs := [.bool false, .slice Ax18 lx19 cx20]) co131 (ar2 C (T rfl rfl)) (l1Trim_num (s := (max sx sy)) (neg := false) h40.ws (by first | omega | (simp; done) | (simp; omega)) hXs) ?_)
   rintro _ w64 ⟨nb59, A60, n61, c62, rfl, e65, hn63⟩
   have E66 := below_ext E36 E36.size e65
   have lhn63 := Num.len (by decide) hn63
   have H67 := (e65.blk H39)
   refine lw_e (oe_store (v := .agg #[.bool nb59, .slice A60 n61 c62]) (vs := [.bool nb59, .slice A60 n61 c62]) (l := [.bool nb59, .slice A60 n61 c62]) (T rfl f33) (T rfl rfl) sz88 rfl rfl rfl H67 rfl ?_)
   intro w68 s69 H70
   have E71 := below_st E66 N14 s69
   refine lw_nil ?_
   refine rk_ret Try.func98 (v := .agg #[.bool nb59, .slice A60 n61 c62]) (res1 Try.results98 (rv_cells (l := [.bool nb59, .slice A60 n61 c62]) agt88 sz88 rfl f33 H70 rfl)) ⟨_, rfl, ?_⟩
   have h72 := (hn63.st s69 H67 (by decide))
   have hY0 : Y25 = 0 := by omega
   rw [hY0, gI_zero, gI_abs] at hgc
   exact ⟨_, _, _, _, rfl, E71, h72.to (by simp only [sg]; simp; omega) (Nat.le_refl _)⟩
set_option maxHeartbeats 1000000 in
theorem gcd3_ok {w : World} {bl : Nat} {na : Bool} {Aa : Option Addr} {la ca : Nat} {x : Int} {sx : Nat} (ha : Num 64 36 .u64 w na Aa la ca x sx) {nb : Bool} {Ab : Option Addr} {lb cb : Nat} {y : Int} {sy : Nat} (hb : Num 64 36 .u64 w nb Ab lb cb y sy) {nm : Bool} {Am : Option Addr} {lm cm : Nat} {z : Int} {sz : Nat} (hm : Num 64 36 .u64 w nm Am lm cm z sz) (hsx : sx ≤ 200000) (hsy : sy ≤ 200000) (hsz : sz ≤ 200000) (hL : w.heap[bl]? = some (.cells #[.bool na, .slice Aa la ca, .bool nb, .slice Ab lb cb, .bool nm, .slice Am lm cm] 107)) : Ct Try.prog 105 [.slice (some ⟨bl, 0, none⟩) 3 3] w fun v w1 => ∃ nr A' n c', v = .agg #[.bool nr, .slice A' n c'] ∧ Ext w w1 ∧ Num 64 36 .u64 w1 nr A' n c' (gI3 x y z) (max sx (max sy sz)) := by
 refine ct_run (n := 37) Try.func105 rfl Try.ntmps105 rfl ?_
 have E0 : Below w.heap.size w w := Below.refl _ _
 have lha := Num.len (by decide) ha
 have lhb := Num.len (by decide) hb
 have lhm := Num.len (by decide) hm
 refine rk_seq ?_
 refine rk_reg ?_
 refine lw_e (oe_alloc ze107 ?_)
 intro b1 w2 n3
 have N4 : w.heap.size ≤ b1 := n3.eq ▸ E0.size
 have : bl < b1 := n3.eq ▸ lt_of_blk hL
 have E5 := below_ext E0 E0.size n3.ext
 refine lw_nil ?_
 refine rk_seq ?_
 refine rk_reg ?_
 refine lw_v (.agg #[.bool false, .slice none 0 0]) (dv_build (pv := []) (l := [.bool false, .slice none 0 0]) zc107 pl107 trivial rfl) ?_
 refine lw_e (oe_alloc ze107 ?_)
 intro b6 w7 n8
 have N9 : w.heap.size ≤ b6 := n8.eq ▸ E5.size
 have : b1 < b6 := n8.eq ▸ lt_of_blk n3.blk
 have E10 := below_ext E5 E5.size n8.ext
 refine lw_e (oe_store (v := .agg #[.bool false, .slice none 0 0]) (vs := [.bool false, .slice none 0 0]) (l := [.bool false, .slice none 0 0]) (T rfl rfl) (T rfl rfl) sz107 rfl rfl rfl n8.blk rfl ?_)
 intro w11 s12 H13
 have E14 := below_st E10 N9 s12
 refine lw_nil ?_
 refine rk_seq ?_
 refine rk_seq ?_
 refine rk_reg ?_
 refine lw_v (.slice (some ⟨bl, 0, none⟩) 3 3) (dv_move (T rfl rfl)) ?_
 refine lw_v (.int .i64 3) (dv_len (ad := some ⟨bl, 0, none⟩) (l := 3) (c := 3) us172 (T rfl rfl)) ?_
 refine lw_v (.int .i64 0) (dv_move C) ?_
 refine lw_nil ?_
 refine rk_block ?_
 refine rk_unroll ?_
 refine rk_seq ?_
 refine rk_reg ?_
 refine lw_v (.bool (decide (((0 : Int) < 3 : Prop)))) (dv_lss (a := 0) (b := 3) (T rfl rfl) (T rfl rfl)) ?_
 refine lw_nil ?_
 refine rk_seq ?_
 refine rk_ct (T rfl (rfl)) ?_
 refine rk_skip ?_
 refine rk_seq ?_
 refine rk_block ?_
 refine rk_seq ?_
 refine rk_reg ?_
 refine lw_v (.pointer (some ⟨bl, 0, none⟩)) (dv_indexAddr (a := ⟨bl, 0, none⟩) (a' := ⟨bl, 0, none⟩) (l := 3) (c := 3) (j := 0) us172 sz107 (T rfl rfl) (T rfl rfl) (by decide) (by decide) rfl) ?_
 have H15 := (s12.blk (n8.ext.blk (n3.ext.blk hL)) (by omega))
 refine lw_v (.agg #[.bool na, .slice Aa la ca]) (dv_loads (l := [.bool na, .slice Aa la ca]) agt107 sz107 (T rfl rfl) H15 rfl) ?_
 refine lw_e (oe_alloc ze107 ?_)
 intro b16 w17 n18
 have N19 : w.heap.size ≤ b16 := n18.eq ▸ E14.size
 have : b6 < b16 := n18.eq ▸ lt_of_blk H13
 have E20 := below_ext E14 E14.size n18.ext
 refine lw_e (oe_store (v := .agg #[.bool na, .slice Aa la ca]) (vs := [.bool na, .slice Aa la ca]) (l := [.bool na, .slice Aa la ca]) (T rfl rfl) (T rfl rfl) sz107 rfl rfl rfl n18.blk rfl ?_)
 intro w21 s22 H23
 have E24 := below_st E20 N19 s22
 refine lw_nil ?_
 refine rk_seq ?_
 refine rk_any (fun w => w.heap[b6]? = some (.cells #[.bool false, .slice none 0 0] 107) ∧ w.heap[b16]? = some (.cells #[.bool na, .slice Aa la ca] 107)) [5] mo ?_
 intro w25 d26
 have E27 := below_ext E24 E24.size d26.ext
 have H28 := (d26.ext.blk (s22.blk (n18.ext.blk H13) (by omega)))
 have H29 := (d26.ext.blk H23)
 refine aw_pure 0 (.pointer (some ⟨b6, 1, none⟩)) rfl (by kernel_rfl) .none ⟨H28, H29⟩ (fun _ => dv_fieldAddr (a := ⟨b6, 0, none⟩) (a' := ⟨b6, 1, none⟩) fo107_1 (T rfl rfl) rfl) ?_
 refine aw_load 1 (.slice none 0 0) rfl (by kernel_rfl) .none ⟨H28, H29⟩ (fun _ s => dv_load1 (b := b6) (o := 1) agt105 (T rfl rfl) s.1 rfl) ?_
 refine aw_pure 2 (.pointer (some ⟨b16, 1, none⟩)) rfl (by kernel_rfl) .none ⟨H28, H29⟩ (fun _ => dv_fieldAddr (a := ⟨b16, 0, none⟩) (a' := ⟨b16, 1, none⟩) fo107_1 (T rfl rfl) rfl) ?_
 refine aw_load 3 (.slice Aa la ca) rfl (by kernel_rfl) .none ⟨H28, H29⟩ (fun _ s => dv_load1 (b := b16) (o := 1) agt105 (T rfl rfl) s.2 rfl) ?_
 refine aw_pure 4 (.slice none 0 0) rfl (by kernel_rfl) .none ⟨H28, H29⟩ (fun _ => dv_assign (T rfl rfl)) ?_
 refine aw_last 5 (.slice Aa la ca) rfl (by kernel_rfl) .none (fun _ => dv_assign (T rfl rfl)) ?_
 refine aw_done (by kernel_rfl) ?_
 refine rk_seq ?_
 refine rk_block ?_
 have h38 := ha.ext E27
 have H39 := (d26.ext.blk (s22.blk (n18.ext.blk H15) (by omega)))
 have H40 := (d26.ext.blk (s22.blk (n18.ext.blk (s12.blk (n8.ext.blk n3.blk) (by omega))) (by omega)))
 refine rk_loop (fun dm_ fr wl => ∃ (Ax30 : Option Addr) (lx31 cx32 : Nat) (Ay33 : Option Addr) (ly34 cy35 : Nat) (X36 Y37 : Int), dm_ = Y37.toNat ∧ fr 2 = .pointer (some ⟨b1, 0, none⟩) ∧ fr 3 = .pointer (some ⟨b6, 0, none⟩) ∧ fr 5 = .pointer (some ⟨b16, 0, none⟩) ∧ fr 6 = .slice Ax30 lx31 cx32 ∧ fr 7 = .slice Ay33 ly34 cy35 ∧ fr 11 = .slice (some ⟨bl, 0, none⟩) 3 3 ∧ fr 12 = .int .i64 3 ∧ fr 13 = .int .i64 0 ∧ fr 14 = .bool (decide (((0 : Int) < 3 : Prop))) ∧ fr 15 = .pointer (some ⟨bl, 0, none⟩) ∧ fr 16 = .agg #[.bool na, .slice Aa la ca] ∧ fr 17 = .pointer (some ⟨b6, 1, none⟩) ∧ fr 18 = .slice none 0 0 ∧ fr 19 = .pointer (some ⟨b16, 1, none⟩) ∧ fr 20 = .slice Aa la ca ∧ Below w.heap.size w wl ∧ wl.heap[bl]? = some (.cells #[.bool na, .slice Aa la ca, .bool nb, .slice Ab lb cb, .bool nm, .slice Am lm cm] 107) ∧ wl.heap[b1]? = some (.cells #[.bool false, .slice none 0 0] 107) ∧ wl.heap[b6]? = some (.cells #[.bool false, .slice none 0 0] 107) ∧ wl.heap[b16]? = some (.cells #[.bool na, .slice Aa la ca] 107) ∧ Wc 64 36 .u64 wl Ax30 lx31 cx32 X36 ∧ Wc 64 36 .u64 wl Ay33 ly34 cy35 Y37 ∧ (gI X36 Y37 = gI 0 ((x.natAbs : Int))) ∧ (X36 < 2 ^ (max sx (max sy sz))) ∧ (Y37 < 2 ^ (max sx (max sy sz)))) ((((x.natAbs : Int))).toNat) ⟨none, 0, 0, Aa, la, ca, 0, ((x.natAbs : Int)), rfl, rfl, rfl, rfl, rfl, rfl, rfl, rfl, rfl, rfl, rfl, rfl, rfl, rfl, rfl, rfl, E27, H39, H40, H28, H29, Wc.zero, h38.wc, rfl, (two_pos _), (Int.lt_of_lt_of_le h38.ltI (pow_le_of (by decide) (by omega)))⟩ ?_
 intro d45 fr44 w41 hI42 ih43
 obtain ⟨Ax30, lx31, cx32, Ay33, ly34, cy35, X36, Y37, hd68, f46, f47, f48, f49, f50, f51, f52, f53, f54, f55, f56, f57, f58, f59, f60, E61, H62, H63, H64, H65, h66, h67, hgc, hXs, hYs⟩ := hI42
 have hXp := h66.nonneg
 have hYp := h67.pos
 have hYn := h67.nonneg
 have hlx := Wc.len (by decide) h66 hXs
 have hly := Wc.len (by decide) h67 hYs
 refine rk_seq ?_
 refine rk_seq ?_
 refine rk_reg ?_
 refine lw_v (.slice Ay33 ly34 cy35) (dv_move (T rfl f50)) ?_
 refine lw_v (.int .i64 ((ly34 : Int))) (dv_len (ad := Ay33) (l := ly34) (c := cy35) us105 (T rfl rfl)) ?_
 refine lw_v (.bool (decide (0 < ((ly34 : Int))))) (dv_gtr (a := (ly34 : Int)) (b := 0) (T rfl rfl) C) ?_
 refine lw_nil ?_
 by_cases hb69 : 0 < ((ly34 : Int))
 · refine rk_ct (T rfl (congrArg Value.bool (decide_eq_true hb69))) ?_
   refine rk_skip ?_
   refine rk_block ?_
   refine rk_seq ?_
   refine rk_reg ?_
   refine lw_v (.slice Ax30 lx31 cx32) (dv_move (T rfl f49)) ?_
   refine lw_v (.slice Ay33 ly34 cy35) (dv_move (T rfl f50)) ?_
   refine lw_e (oe_callf (vs := [.slice Ax30 lx31 cx32, .slice Ay33 ly34 cy35]) co135 (ar2 (T rfl rfl) (T rfl rfl)) (divWords_ok h66 h67 (by omega) (by first | omega | (simp; done) | (simp; omega)) (by first | omega | (simp; done) | (simp; omega))) ?_)
   rintro _ w78 ⟨A70, n71, c72, A73, n74, c75, rfl, e79, h76, h77⟩
   have E80 := below_ext E61 E61.size e79
   have lh76 := Wc.len (by decide) h76 (div_sz (Wc.nonneg h66) (by omega) hXs)
   have lh77 := Wc.len (by decide) h77 (mod_sz (by omega) hYs)
   refine lw_v (.tuple #[.slice A70 n71 c72, .slice A73 n74 c75]) (dv_move (T rfl rfl)) ?_
   refine lw_v (.slice A70 n71 c72) (dv_extract (vs := #[.slice A70 n71 c72, .slice A73 n74 c75]) (T rfl rfl) rfl) ?_
   refine lw_v (.slice A73 n74 c75) (dv_extract (vs := #[.slice A70 n71 c72, .slice A73 n74 c75]) (T rfl rfl) rfl) ?_
   refine lw_v (.slice A70 n71 c72) (dv_assign (T rfl rfl)) ?_
   refine lw_v (.slice A73 n74 c75) (dv_assign (T rfl rfl)) ?_
   refine lw_nil ?_
   refine rk_reg ?_
   refine lw_v (.slice Ay33 ly34 cy35) (dv_move (T rfl f50)) ?_
   refine lw_v (.slice A73 n74 c75) (dv_move (T rfl rfl)) ?_
   obtain ⟨xs81, hl82, hc83, hw84, ho85, hk86, hv87⟩ := h77
   have H88 := (e79.blk H62)
   have : bl < w78.heap.size := lt_of_blk H88
   have H89 := (e79.blk H63)
   have : b1 < w78.heap.size := lt_of_blk H89
   have H90 := (e79.blk H64)
   have : b6 < w78.heap.size := lt_of_blk H90
   have H91 := (e79.blk H65)
   have : b16 < w78.heap.size := lt_of_blk H91
   have N92 : w.heap.size ≤ w78.heap.size := E80.size
   refine lw_e (oe_callf (vs := [.slice A73 n74 c75]) co136 (ar1 (T rfl rfl)) (clone_ok hw84 hl82 (by first | omega | (simp; done) | (simp; omega))) ?_)
   rintro _ w96 ⟨Ad93, c94, rfl, e97, hO95⟩
   have E98 := below_ext E80 E80.size e97
   refine lw_v (.slice Ay33 ly34 cy35) (dv_assign (T rfl rfl)) ?_
   refine lw_v (.slice Ad93 (xs81.length) c94) (dv_assign (T rfl rfl)) ?_
   refine lw_nil ?_
   refine rk_inBlock ?_
   have h99 := ((h67.ext e79).ext e97)
   have hml := Int.emod_lt_of_pos X36 (hYp.1 (by omega))
   have hmn := Int.emod_nonneg X36 (show Y37 ≠ 0 by omega)
   have H100 := (e97.blk H88)
   have H101 := (e97.blk H89)
   have H102 := (e97.blk H90)
   have H103 := (e97.blk H91)
   exact ih43 (((X36 % Y37)).toNat) _ _ (by rw [hd68]; omega) ⟨Ay33, ly34, cy35, Ad93, xs81.length, c94, Y37, (X36 % Y37), rfl, f46, f47, f48, rfl, rfl, f51, f52, f53, f54, f55, f56, f57, f58, f59, f60, E98, H100, H101, H102, H103, h99, ⟨xs81, rfl, hO95.cap, hO95.wd, ho85, hk86, hv87⟩, (by rw [gI_step]; exact hgc), hYs, (by omega)⟩
 · refine rk_cf (T rfl (congrArg Value.bool (decide_eq_false hb69))) ?_
   refine rk_exit rfl ?_
   have hY0 : Y37 = 0 := by omega
   rw [hY0, gI_zero] at hgc
   have hr104 : X36 = (x.natAbs : Int) := (by have h := hgc; rw [gI_zl] at h; (try simp at h); omega)
   have hw105 := Wc.eq h66 hr104
   have hq106 : (x.natAbs : Int) < 2 ^ (max sx (max sy sz)) := by rw [← hr104]; exact hXs
   refine rk_reg ?_
   refine lw_v (.slice Ax30 lx31 cx32) (dv_move (T rfl f49)) ?_
   refine lw_v (.agg #[.bool false, .slice Ax30 lx31 cx32]) (dv_build (pv := [(0, .bool false), (1, .slice Ax30 lx31 cx32)]) (l := [.bool false, .slice Ax30 lx31 cx32]) zc107 pl107 ⟨rfl, C, ⟨rfl, (T rfl rfl), trivial⟩⟩ rfl) ?_
   refine lw_e (oe_store (v := .agg #[.bool false, .slice Ax30 lx31 cx32]) (vs := [.bool false, .slice Ax30 lx31 cx32]) (l := [.bool false, .slice Ax30 lx31 cx32]) (T rfl f47) (T rfl rfl) sz107 rfl rfl rfl H64 rfl ?_)
   intro w107 s108 H109
   have E110 := below_st E61 N9 s108
   refine lw_nil ?_
   refine rk_inBlock ?_
   refine rk_reg ?_
   refine lw_v (.int .i64 1) (dv_add (a := 0) (b := 1) (z := 1) (T rfl f53) C (by decide)) ?_
   refine lw_v (.int .i64 1) (dv_move (T rfl rfl)) ?_
   refine lw_nil ?_
   refine rk_inLoop ?_
   refine rk_seq ?_
   refine rk_reg ?_
   refine lw_v (.bool (decide (((1 : Int) < 3 : Prop)))) (dv_lss (a := 1) (b := 3) (T rfl rfl) (T rfl f52)) ?_
   refine lw_nil ?_
   refine rk_seq ?_
   refine rk_ct (T rfl (rfl)) ?_
   refine rk_skip ?_
   refine rk_seq ?_
   refine rk_block ?_
   refine rk_seq ?_
   refine rk_reg ?_
   refine lw_v (.pointer (some ⟨bl, 2, none⟩)) (dv_indexAddr (a := ⟨bl, 0, none⟩) (a' := ⟨bl, 2, none⟩) (l := 3) (c := 3) (j := 1) us172 sz107 (T rfl f51) (T rfl rfl) (by decide) (by decide) rfl) ?_
   have H111 := (s108.blk H62 (by omega))
   refine lw_v (.agg #[.bool nb, .slice Ab lb cb]) (dv_loads (l := [.bool nb, .slice Ab lb cb]) agt107 sz107 (T rfl rfl) H111 rfl) ?_
   refine lw_e (oe_alloc ze107 ?_)
   intro b112 w113 n114
   have N115 : w.heap.size ≤ b112 := n114.eq ▸ E110.size
   have H116 := (s108.blk H65 (by omega))
   have : b16 < b112 := n114.eq ▸ lt_of_blk H116
   have E117 := below_ext E110 E110.size n114.ext
   refine lw_e (oe_store (v := .agg #[.bool nb, .slice Ab lb cb]) (vs := [.bool nb, .slice Ab lb cb]) (l := [.bool nb, .slice Ab lb cb]) (T rfl rfl) (T rfl rfl) sz107 rfl rfl rfl n114.blk rfl ?_)
   intro w118 s119 H120
   have E121 := below_st E117 N115 s119
   refine lw_nil ?_
   refine rk_seq ?_
   refine rk_any (fun w => w.heap[b6]? = some (.cells #[.bool false, .slice Ax30 lx31 cx32] 107) ∧ w.heap[b112]? = some (.cells #[.bool nb, .slice Ab lb cb] 107)) [5] mo ?_
   intro w122 d123
   have E124 := below_ext E121 E121.size d123.ext
   have H125 := (d123.ext.blk (s119.blk (n114.ext.blk H109) (by omega)))
   have H126 := (d123.ext.blk H120)
   refine aw_pure 0 (.pointer (some ⟨b6, 1, none⟩)) rfl (by kernel_rfl) .none ⟨H125, H126⟩ (fun _ => dv_fieldAddr (a := ⟨b6, 0, none⟩) (a' := ⟨b6, 1, none⟩) fo107_1 (T rfl f47) rfl) ?_
   refine aw_load 1 (.slice Ax30 lx31 cx32) rfl (by kernel_rfl) .none ⟨H125, H126⟩ (fun _ s => dv_load1 (b := b6) (o := 1) agt105 (T rfl rfl) s.1 rfl) ?_
   refine aw_pure 2 (.pointer (some ⟨b112, 1, none⟩)) rfl (by kernel_rfl) .none ⟨H125, H126⟩ (fun _ => dv_fieldAddr (a := ⟨b112, 0, none⟩) (a' := ⟨b112, 1, none⟩) fo107_1 (T rfl rfl) rfl) ?_
   refine aw_load 3 (.slice Ab lb cb) rfl (by kernel_rfl) .none ⟨H125, H126⟩ (fun _ s => dv_load1 (b := b112) (o := 1) agt105 (T rfl rfl) s.2 rfl) ?_
   refine aw_pure 4 (.slice Ax30 lx31 cx32) rfl (by kernel_rfl) .none ⟨H125, H126⟩ (fun _ => dv_assign (T rfl rfl)) ?_
   refine aw_last 5 (.slice Ab lb cb) rfl (by kernel_rfl) .none (fun _ => dv_assign (T rfl rfl)) ?_
   refine aw_done (by kernel_rfl) ?_
   refine rk_seq ?_
   refine rk_block ?_
   have h135 := ((((hw105.st s108 H64 (by decide)).ext n114.ext).st s119 n114.blk (by decide)).ext d123.ext)
   have h136 := hb.ext E124
   have H137 := (d123.ext.blk (s119.blk (n114.ext.blk H111) (by omega)))
   have H138 := (d123.ext.blk (s119.blk (n114.ext.blk (s108.blk H63 (by omega))) (by omega)))
   have H139 := (d123.ext.blk (s119.blk (n114.ext.blk H116) (by omega)))
   refine rk_loop (fun dm_ fr wl => ∃ (Ax127 : Option Addr) (lx128 cx129 : Nat) (Ay130 : Option Addr) (ly131 cy132 : Nat) (X133 Y134 : Int), dm_ = Y134.toNat ∧ fr 2 = .pointer (some ⟨b1, 0, none⟩) ∧ fr 3 = .pointer (some ⟨b6, 0, none⟩) ∧ fr 5 = .pointer (some ⟨b112, 0, none⟩) ∧ fr 6 = .slice Ax127 lx128 cx129 ∧ fr 7 = .slice Ay130 ly131 cy132 ∧ fr 11 = .slice (some ⟨bl, 0, none⟩) 3 3 ∧ fr 12 = .int .i64 3 ∧ fr 13 = .int .i64 1 ∧ fr 14 = .bool (decide (((1 : Int) < 3 : Prop))) ∧ fr 15 = .pointer (some ⟨bl, 2, none⟩) ∧ fr 16 = .agg #[.bool nb, .slice Ab lb cb] ∧ fr 17 = .pointer (some ⟨b6, 1, none⟩) ∧ fr 18 = .slice Ax30 lx31 cx32 ∧ fr 19 = .pointer (some ⟨b112, 1, none⟩) ∧ fr 20 = .slice Ab lb cb ∧ fr 33 = .slice Ax30 lx31 cx32 ∧ fr 34 = .agg #[.bool false, .slice Ax30 lx31 cx32] ∧ fr 35 = .int .i64 1 ∧ Below w.heap.size w wl ∧ wl.heap[bl]? = some (.cells #[.bool na, .slice Aa la ca, .bool nb, .slice Ab lb cb, .bool nm, .slice Am lm cm] 107) ∧ wl.heap[b1]? = some (.cells #[.bool false, .slice none 0 0] 107) ∧ wl.heap[b6]? = some (.cells #[.bool false, .slice Ax30 lx31 cx32] 107) ∧ wl.heap[b16]? = some (.cells #[.bool na, .slice Aa la ca] 107) ∧ wl.heap[b112]? = some (.cells #[.bool nb, .slice Ab lb cb] 107) ∧ Wc 64 36 .u64 wl Ax127 lx128 cx129 X133 ∧ Wc 64 36 .u64 wl Ay130 ly131 cy132 Y134 ∧ (gI X133 Y134 = gI ((x.natAbs : Int)) ((y.natAbs : Int))) ∧ (X133 < 2 ^ (max sx (max sy sz))) ∧ (Y134 < 2 ^ (max sx (max sy sz)))) ((((y.natAbs : Int))).toNat) ⟨Ax30, lx31, cx32, Ab, lb, cb, ((x.natAbs : Int)), ((y.natAbs : Int)), rfl, f46, f47, rfl, rfl, rfl, f51, f52, rfl, rfl, rfl, rfl, rfl, rfl, rfl, rfl, rfl, rfl, rfl, E124, H137, H138, H125, H139, H126, h135, h136.wc, rfl, hq106, (Int.lt_of_lt_of_le h136.ltI (pow_le_of (by decide) (by omega)))⟩ ?_
   intro d144 fr143 w140 hI141 ih142
   obtain ⟨Ax127, lx128, cx129, Ay130, ly131, cy132, X133, Y134, hd171, f145, f146, f147, f148, f149, f150, f151, f152, f153, f154, f155, f156, f157, f158, f159, f160, f161, f162, E163, H164, H165, H166, H167, H168, h169, h170, hgc, hXs, hYs⟩ := hI141
   have hXp := h169.nonneg
   have hYp := h170.pos
   have hYn := h170.nonneg
   have hlx := Wc.len (by decide) h169 hXs
   have hly := Wc.len (by decide) h170 hYs
   refine rk_seq ?_
   refine rk_seq ?_
   refine rk_reg ?_
   refine lw_v (.slice Ay130 ly131 cy132) (dv_move (T rfl f149)) ?_
   refine lw_v (.int .i64 ((ly131 : Int))) (dv_len (ad := Ay130) (l := ly131) (c := cy132) us105 (T rfl rfl)) ?_
   refine lw_v (.bool (decide (0 < ((ly131 : Int))))) (dv_gtr (a := (ly131 : Int)) (b := 0) (T rfl rfl) C) ?_
   refine lw_nil ?_
   by_cases hb172 : 0 < ((ly131 : Int))
   · refine rk_ct (T rfl (congrArg Value.bool (decide_eq_true hb172))) ?_
     refine rk_skip ?_
     refine rk_block ?_
     refine rk_seq ?_
     refine rk_reg ?_
     refine lw_v (.slice Ax127 lx128 cx129) (dv_move (T rfl f148)) ?_
     refine lw_v (.slice Ay130 ly131 cy132) (dv_move (T rfl f149)) ?_
     refine lw_e (oe_callf (vs := [.slice Ax127 lx128 cx129, .slice Ay130 ly131 cy132]) co135 (ar2 (T rfl rfl) (T rfl rfl)) (divWords_ok h169 h170 (by omega) (by first | omega | (simp; done) | (simp; omega)) (by first | omega | (simp; done) | (simp; omega))) ?_)
     rintro _ w181 ⟨A173, n174, c175, A176, n177, c178, rfl, e182, h179, h180⟩
     have E183 := below_ext E163 E163.size e182
     have lh179 := Wc.len (by decide) h179 (div_sz (Wc.nonneg h169) (by omega) hXs)
     have lh180 := Wc.len (by decide) h180 (mod_sz (by omega) hYs)
     refine lw_v (.tuple #[.slice A173 n174 c175, .slice A176 n177 c178]) (dv_move (T rfl rfl)) ?_
     refine lw_v (.slice A173 n174 c175) (dv_extract (vs := #[.slice A173 n174 c175, .slice A176 n177 c178]) (T rfl rfl) rfl) ?_
     refine lw_v (.slice A176 n177 c178) (dv_extract (vs := #[.slice A173 n174 c175, .slice A176 n177 c178]) (T rfl rfl) rfl) ?_
     refine lw_v (.slice A173 n174 c175) (dv_assign (T rfl rfl)) ?_
     refine lw_v (.slice A176 n177 c178) (dv_assign (T rfl rfl)) ?_
     refine lw_nil ?_
     refine rk_reg ?_
     refine lw_v (.slice Ay130 ly131 cy132) (dv_move (T rfl f149)) ?_
     refine lw_v (.slice A176 n177 c178) (dv_move (T rfl rfl)) ?_
     obtain ⟨xs184, hl185, hc186, hw187, ho188, hk189, hv190⟩ := h180
     have H191 := (e182.blk H164)
     have : bl < w181.heap.size := lt_of_blk H191
     have H192 := (e182.blk H165)
     have : b1 < w181.heap.size := lt_of_blk H192
     have H193 := (e182.blk H166)
     have : b6 < w181.heap.size := lt_of_blk H193
     have H194 := (e182.blk H167)
     have : b16 < w181.heap.size := lt_of_blk H194
     have H195 := (e182.blk H168)
     have : b112 < w181.heap.size := lt_of_blk H195
     have N196 : w.heap.size ≤ w181.heap.size := E183.size
     refine lw_e (oe_callf (vs := [.slice A176 n177 c178]) co136 (ar1 (T rfl rfl)) (clone_ok hw187 hl185 (by first | omega | (simp; done) | (simp; omega))) ?_)
     rintro _ w200 ⟨Ad197, c198, rfl, e201, hO199⟩
     have E202 := below_ext E183 E183.size e201
     refine lw_v (.slice Ay130 ly131 cy132) (dv_assign (T rfl rfl)) ?_
     refine lw_v (.slice Ad197 (xs184.length) c198) (dv_assign (T rfl rfl)) ?_
     refine lw_nil ?_
     refine rk_inBlock ?_
     have h203 := ((h170.ext e182).ext e201)
     have hml := Int.emod_lt_of_pos X133 (hYp.1 (by omega))
     have hmn := Int.emod_nonneg X133 (show Y134 ≠ 0 by omega)
     have H204 := (e201.blk H191)
     have H205 := (e201.blk H192)
     have H206 := (e201.blk H193)
     have H207 := (e201.blk H194)
     have H208 := (e201.blk H195)
     exact ih142 (((X133 % Y134)).toNat) _ _ (by rw [hd171]; omega) ⟨Ay130, ly131, cy132, Ad197, xs184.length, c198, Y134, (X133 % Y134), rfl, f145, f146, f147, rfl, rfl, f150, f151, f152, f153, f154, f155, f156, f157, f158, f159, f160, f161, f162, E202, H204, H205, H206, H207, H208, h203, ⟨xs184, rfl, hO199.cap, hO199.wd, ho188, hk189, hv190⟩, (by rw [gI_step]; exact hgc), hYs, (by omega)⟩
   · refine rk_cf (T rfl (congrArg Value.bool (decide_eq_false hb172))) ?_
     refine rk_exit rfl ?_
     have hY0 : Y134 = 0 := by omega
     rw [hY0, gI_zero] at hgc
     have hr209 : X133 = gI x y := (by have h := hgc; rw [gI_abs] at h; (try simp at h); omega)
     have hw210 := Wc.eq h169 hr209
     have hq211 : gI x y < 2 ^ (max sx (max sy sz)) := by rw [← hr209]; exact hXs
     refine rk_reg ?_
     refine lw_v (.slice Ax127 lx128 cx129) (dv_move (T rfl f148)) ?_
     refine lw_v (.agg #[.bool false, .slice Ax127 lx128 cx129]) (dv_build (pv := [(0, .bool false), (1, .slice Ax127 lx128 cx129)]) (l := [.bool false, .slice Ax127 lx128 cx129]) zc107 pl107 ⟨rfl, C, ⟨rfl, (T rfl rfl), trivial⟩⟩ rfl) ?_
     refine lw_e (oe_store (v := .agg #[.bool false, .slice Ax127 lx128 cx129]) (vs := [.bool false, .slice Ax127 lx128 cx129]) (l := [.bool false, .slice Ax127 lx128 cx129]) (T rfl f146) (T rfl rfl) sz107 rfl rfl rfl H166 rfl ?_)
     intro w212 s213 H214
     have E215 := below_st E163 N9 s213
     refine lw_nil ?_
     refine rk_inBlock ?_
     refine rk_reg ?_
     refine lw_v (.int .i64 2) (dv_add (a := 1) (b := 1) (z := 2) (T rfl f152) C (by decide)) ?_
     refine lw_v (.int .i64 2) (dv_move (T rfl rfl)) ?_
     refine lw_nil ?_
     refine rk_inLoop ?_
     refine rk_seq ?_
     refine rk_reg ?_
     refine lw_v (.bool (decide (((2 : Int) < 3 : Prop)))) (dv_lss (a := 2) (b := 3) (T rfl rfl) (T rfl f151)) ?_
     refine lw_nil ?_
     refine rk_seq ?_
     refine rk_ct (T rfl (rfl)) ?_
     refine rk_skip ?_
     refine rk_seq ?_
     refine rk_block ?_
     refine rk_seq ?_
     refine rk_reg ?_
     refine lw_v (.pointer (some ⟨bl, 4, none⟩)) (dv_indexAddr (a := ⟨bl, 0, none⟩) (a' := ⟨bl, 4, none⟩) (l := 3) (c := 3) (j := 2) us172 sz107 (T rfl f150) (T rfl rfl) (by decide) (by decide) rfl) ?_
     have H216 := (s213.blk H164 (by omega))
     refine lw_v (.agg #[.bool nm, .slice Am lm cm]) (dv_loads (l := [.bool nm, .slice Am lm cm]) agt107 sz107 (T rfl rfl) H216 rfl) ?_
     refine lw_e (oe_alloc ze107 ?_)
     intro b217 w218 n219
     have N220 : w.heap.size ≤ b217 := n219.eq ▸ E215.size
     have H221 := (s213.blk H168 (by omega))
     have : b112 < b217 := n219.eq ▸ lt_of_blk H221
     have E222 := below_ext E215 E215.size n219.ext
     refine lw_e (oe_store (v := .agg #[.bool nm, .slice Am lm cm]) (vs := [.bool nm, .slice Am lm cm]) (l := [.bool nm, .slice Am lm cm]) (T rfl rfl) (T rfl rfl) sz107 rfl rfl rfl n219.blk rfl ?_)
     intro w223 s224 H225
     have E226 := below_st E222 N220 s224
     refine lw_nil ?_
     refine rk_seq ?_
     refine rk_any (fun w => w.heap[b6]? = some (.cells #[.bool false, .slice Ax127 lx128 cx129] 107) ∧ w.heap[b217]? = some (.cells #[.bool nm, .slice Am lm cm] 107)) [5] mo ?_
     intro w227 d228
     have E229 := below_ext E226 E226.size d228.ext
     have H230 := (d228.ext.blk (s224.blk (n219.ext.blk H214) (by omega)))
     have H231 := (d228.ext.blk H225)
     refine aw_pure 0 (.pointer (some ⟨b6, 1, none⟩)) rfl (by kernel_rfl) .none ⟨H230, H231⟩ (fun _ => dv_fieldAddr (a := ⟨b6, 0, none⟩) (a' := ⟨b6, 1, none⟩) fo107_1 (T rfl f146) rfl) ?_
     refine aw_load 1 (.slice Ax127 lx128 cx129) rfl (by kernel_rfl) .none ⟨H230, H231⟩ (fun _ s => dv_load1 (b := b6) (o := 1) agt105 (T rfl rfl) s.1 rfl) ?_
     refine aw_pure 2 (.pointer (some ⟨b217, 1, none⟩)) rfl (by kernel_rfl) .none ⟨H230, H231⟩ (fun _ => dv_fieldAddr (a := ⟨b217, 0, none⟩) (a' := ⟨b217, 1, none⟩) fo107_1 (T rfl rfl) rfl) ?_
     refine aw_load 3 (.slice Am lm cm) rfl (by kernel_rfl) .none ⟨H230, H231⟩ (fun _ s => dv_load1 (b := b217) (o := 1) agt105 (T rfl rfl) s.2 rfl) ?_
     refine aw_pure 4 (.slice Ax127 lx128 cx129) rfl (by kernel_rfl) .none ⟨H230, H231⟩ (fun _ => dv_assign (T rfl rfl)) ?_
     refine aw_last 5 (.slice Am lm cm) rfl (by kernel_rfl) .none (fun _ => dv_assign (T rfl rfl)) ?_
     refine aw_done (by kernel_rfl) ?_
     refine rk_seq ?_
     refine rk_block ?_
     have h240 := ((((hw210.st s213 H166 (by decide)).ext n219.ext).st s224 n219.blk (by decide)).ext d228.ext)
     have h241 := hm.ext E229
     have H242 := (d228.ext.blk (s224.blk (n219.ext.blk H216) (by omega)))
     have H243 := (d228.ext.blk (s224.blk (n219.ext.blk (s213.blk H165 (by omega))) (by omega)))
     have H244 := (d228.ext.blk (s224.blk (n219.ext.blk (s213.blk H167 (by omega))) (by omega)))
     have H245 := (d228.ext.blk (s224.blk (n219.ext.blk H221) (by omega)))
     refine rk_loop (fun dm_ fr wl => ∃ (Ax232 : Option Addr) (lx233 cx234 : Nat) (Ay235 : Option Addr) (ly236 cy237 : Nat) (X238 Y239 : Int), dm_ = Y239.toNat ∧ fr 2 = .pointer (some ⟨b1, 0, none⟩) ∧ fr 3 = .pointer (some ⟨b6, 0, none⟩) ∧ fr 5 = .pointer (some ⟨b217, 0, none⟩) ∧ fr 6 = .slice Ax232 lx233 cx234 ∧ fr 7 = .slice Ay235 ly236 cy237 ∧ fr 11 = .slice (some ⟨bl, 0, none⟩) 3 3 ∧ fr 12 = .int .i64 3 ∧ fr 13 = .int .i64 2 ∧ fr 14 = .bool (decide (((2 : Int) < 3 : Prop))) ∧ fr 15 = .pointer (some ⟨bl, 4, none⟩) ∧ fr 16 = .agg #[.bool nm, .slice Am lm cm] ∧ fr 17 = .pointer (some ⟨b6, 1, none⟩) ∧ fr 18 = .slice Ax127 lx128 cx129 ∧ fr 19 = .pointer (some ⟨b217, 1, none⟩) ∧ fr 20 = .slice Am lm cm ∧ fr 33 = .slice Ax127 lx128 cx129 ∧ fr 34 = .agg #[.bool false, .slice Ax127 lx128 cx129] ∧ fr 35 = .int .i64 2 ∧ Below w.heap.size w wl ∧ wl.heap[bl]? = some (.cells #[.bool na, .slice Aa la ca, .bool nb, .slice Ab lb cb, .bool nm, .slice Am lm cm] 107) ∧ wl.heap[b1]? = some (.cells #[.bool false, .slice none 0 0] 107) ∧ wl.heap[b6]? = some (.cells #[.bool false, .slice Ax127 lx128 cx129] 107) ∧ wl.heap[b16]? = some (.cells #[.bool na, .slice Aa la ca] 107) ∧ wl.heap[b112]? = some (.cells #[.bool nb, .slice Ab lb cb] 107) ∧ wl.heap[b217]? = some (.cells #[.bool nm, .slice Am lm cm] 107) ∧ Wc 64 36 .u64 wl Ax232 lx233 cx234 X238 ∧ Wc 64 36 .u64 wl Ay235 ly236 cy237 Y239 ∧ (gI X238 Y239 = gI (gI x y) ((z.natAbs : Int))) ∧ (X238 < 2 ^ (max sx (max sy sz))) ∧ (Y239 < 2 ^ (max sx (max sy sz)))) ((((z.natAbs : Int))).toNat) ⟨Ax127, lx128, cx129, Am, lm, cm, (gI x y), ((z.natAbs : Int)), rfl, f145, f146, rfl, rfl, rfl, f150, f151, rfl, rfl, rfl, rfl, rfl, rfl, rfl, rfl, rfl, rfl, rfl, E229, H242, H243, H230, H244, H245, H231, h240, h241.wc, rfl, hq211, (Int.lt_of_lt_of_le h241.ltI (pow_le_of (by decide) (by omega)))⟩ ?_
     intro d250 fr249 w246 hI247 ih248
     obtain ⟨Ax232, lx233, cx234, Ay235, ly236, cy237, X238, Y239, hd278, f251, f252, f253, f254, f255, f256, f257, f258, f259, f260, f261, f262, f263, f264, f265, f266, f267, f268, E269, H270, H271, H272, H273, H274, H275, h276, h277, hgc, hXs, hYs⟩ := hI247
     have hXp := h276.nonneg
     have hYp := h277.pos
     have hYn := h277.nonneg
     have hlx := Wc.len (by decide) h276 hXs
     have hly := Wc.len (by decide) h277 hYs
     refine rk_seq ?_
     refine rk_seq ?_
     refine rk_reg ?_
     refine lw_v (.slice Ay235 ly236 cy237) (dv_move (T rfl f255)) ?_
     refine lw_v (.int .i64 ((ly236 : Int))) (dv_len (ad := Ay235) (l := ly236) (c := cy237) us105 (T rfl rfl)) ?_
     refine lw_v (.bool (decide (0 < ((ly236 : Int))))) (dv_gtr (a := (ly236 : Int)) (b := 0) (T rfl rfl) C) ?_
     refine lw_nil ?_
     by_cases hb279 : 0 < ((ly236 : Int))
     · refine rk_ct (T rfl (congrArg Value.bool (decide_eq_true hb279))) ?_
       refine rk_skip ?_
       refine rk_block ?_
       refine rk_seq ?_
       refine rk_reg ?_
       refine lw_v (.slice Ax232 lx233 cx234) (dv_move (T rfl f254)) ?_
       refine lw_v (.slice Ay235 ly236 cy237) (dv_move (T rfl f255)) ?_
       refine lw_e (oe_callf (vs := [.slice Ax232 lx233 cx234, .slice Ay235 ly236 cy237]) co135 (ar2 (T rfl rfl) (T rfl rfl)) (divWords_ok h276 h277 (by omega) (by first | omega | (simp; done) | (simp; omega)) (by first | omega | (simp; done) | (simp; omega))) ?_)
       rintro _ w288 ⟨A280, n281, c282, A283, n284, c285, rfl, e289, h286, h287⟩
       have E290 := below_ext E269 E269.size e289
       have lh286 := Wc.len (by decide) h286 (div_sz (Wc.nonneg h276) (by omega) hXs)
       have lh287 := Wc.len (by decide) h287 (mod_sz (by omega) hYs)
       refine lw_v (.tuple #[.slice A280 n281 c282, .slice A283 n284 c285]) (dv_move (T rfl rfl)) ?_
       refine lw_v (.slice A280 n281 c282) (dv_extract (vs := #[.slice A280 n281 c282, .slice A283 n284 c285]) (T rfl rfl) rfl) ?_
       refine lw_v (.slice A283 n284 c285) (dv_extract (vs := #[.slice A280 n281 c282, .slice A283 n284 c285]) (T rfl rfl) rfl) ?_
       refine lw_v (.slice A280 n281 c282) (dv_assign (T rfl rfl)) ?_
       refine lw_v (.slice A283 n284 c285) (dv_assign (T rfl rfl)) ?_
       refine lw_nil ?_
       refine rk_reg ?_
       refine lw_v (.slice Ay235 ly236 cy237) (dv_move (T rfl f255)) ?_
       refine lw_v (.slice A283 n284 c285) (dv_move (T rfl rfl)) ?_
       obtain ⟨xs291, hl292, hc293, hw294, ho295, hk296, hv297⟩ := h287
       have H298 := (e289.blk H270)
       have : bl < w288.heap.size := lt_of_blk H298
       have H299 := (e289.blk H271)
       have : b1 < w288.heap.size := lt_of_blk H299
       have H300 := (e289.blk H272)
       have : b6 < w288.heap.size := lt_of_blk H300
       have H301 := (e289.blk H273)
       have : b16 < w288.heap.size := lt_of_blk H301
       have H302 := (e289.blk H274)
       have : b112 < w288.heap.size := lt_of_blk H302
       have H303 := (e289.blk H275)
       have : b217 < w288.heap.size := lt_of_blk H303
       have N304 : w.heap.size ≤ w288.heap.size := E290.size
       refine lw_e (oe_callf (vs := [.slice A283 n284 c285]) co136 (ar1 (T rfl rfl)) (clone_ok hw294 hl292 (by first | omega | (simp; done) | (simp; omega))) ?_)
       rintro _ w308 ⟨Ad305, c306, rfl, e309, hO307⟩
       have E310 := below_ext E290 E290.size e309
       refine lw_v (.slice Ay235 ly236 cy237) (dv_assign (T rfl rfl)) ?_
       refine lw_v (.slice Ad305 (xs291.length) c306) (dv_assign (T rfl rfl)) ?_
       refine lw_nil ?_
       refine rk_inBlock ?_
       have h311 := ((h277.ext e289).ext e309)
       have hml := Int.emod_lt_of_pos X238 (hYp.1 (by omega))
       have hmn := Int.emod_nonneg X238 (show Y239 ≠ 0 by omega)
       have H312 := (e309.blk H298)
       have H313 := (e309.blk H299)
       have H314 := (e309.blk H300)
       have H315 := (e309.blk H301)
       have H316 := (e309.blk H302)
       have H317 := (e309.blk H303)
       exact ih248 (((X238 % Y239)).toNat) _ _ (by rw [hd278]; omega) ⟨Ay235, ly236, cy237, Ad305, xs291.length, c306, Y239, (X238 % Y239), rfl, f251, f252, f253, rfl, rfl, f256, f257, f258, f259, f260, f261, f262, f263, f264, f265, f266, f267, f268, E310, H312, H313, H314, H315, H316, H317, h311, ⟨xs291, rfl, hO307.cap, hO307.wd, ho295, hk296, hv297⟩, (by rw [gI_step]; exact hgc), hYs, (by omega)⟩
     · refine rk_cf (T rfl (congrArg Value.bool (decide_eq_false hb279))) ?_
       refine rk_exit rfl ?_
       have hY0 : Y239 = 0 := by omega
       rw [hY0, gI_zero] at hgc
       have hr318 : X238 = gI3 x y z := (by have h := hgc; rw [show gI3 x y z = gI (gI x y) z from rfl]; rw [gI_absr] at h; (try simp at h); omega)
       have hw319 := Wc.eq h276 hr318
       have hq320 : gI3 x y z < 2 ^ (max sx (max sy sz)) := by rw [← hr318]; exact hXs
       refine rk_reg ?_
       refine lw_v (.slice Ax232 lx233 cx234) (dv_move (T rfl f254)) ?_
       refine lw_v (.agg #[.bool false, .slice Ax232 lx233 cx234]) (dv_build (pv := [(0, .bool false), (1, .slice Ax232 lx233 cx234)]) (l := [.bool false, .slice Ax232 lx233 cx234]) zc107 pl107 ⟨rfl, C, ⟨rfl, (T rfl rfl), trivial⟩⟩ rfl) ?_
       refine lw_e (oe_store (v := .agg #[.bool false, .slice Ax232 lx233 cx234]) (vs := [.bool false, .slice Ax232 lx233 cx234]) (l := [.bool false, .slice Ax232 lx233 cx234]) (T rfl f252) (T rfl rfl) sz107 rfl rfl rfl H272 rfl ?_)
       intro w321 s322 H323
       have E324 := below_st E269 N9 s322
       refine lw_nil ?_
       refine rk_inBlock ?_
       refine rk_reg ?_
       refine lw_v (.int .i64 3) (dv_add (a := 2) (b := 1) (z := 3) (T rfl f258) C (by decide)) ?_
       refine lw_v (.int .i64 3) (dv_move (T rfl rfl)) ?_
       refine lw_nil ?_
       refine rk_inLoop ?_
       refine rk_seq ?_
       refine rk_reg ?_
       refine lw_v (.bool (decide (((3 : Int) < 3 : Prop)))) (dv_lss (a := 3) (b := 3) (T rfl rfl) (T rfl f257)) ?_
       refine lw_nil ?_
       refine rk_seq ?_
       refine rk_cf (T rfl (rfl)) ?_
       refine rk_exit rfl ?_
       refine rk_seq ?_
       refine rk_reg ?_
       refine lw_v (.agg #[.bool false, .slice Ax232 lx233 cx234]) (dv_loads (l := [.bool false, .slice Ax232 lx233 cx234]) agt107 sz107 (T rfl f252) H323 rfl) ?_
       have H325 := (s322.blk H271 (by omega))
       refine lw_e (oe_store (v := .agg #[.bool false, .slice Ax232 lx233 cx234]) (vs := [.bool false, .slice Ax232 lx233 cx234]) (l := [.bool false, .slice Ax232 lx233 cx234]) (T rfl f251) (T rfl rfl) sz107 rfl rfl rfl H325 rfl ?_)
       intro w326 s327 H328
       have E329 := below_st E324 N4 s327
       refine lw_nil ?_
       refine rk_ret Try.func105 (v := .agg #[.bool false, .slice Ax232 lx233 cx234]) (res1 Try.results105 (rv_cells (l := [.bool false, .slice Ax232 lx233 cx234]) agt107 sz107 rfl f251 H328 rfl)) ⟨_, rfl, ?_⟩
       have h330 := ((hw319.st s322 H272 (by decide)).st s327 H325 (by decide))
       exact ⟨_, _, _, _, rfl, E329, Wc.num h330 (by simp) (by simp [sg]) hq320⟩
end Go.Proofs.Ytmbpomcbdopgnaa.W
set_option linter.unusedVariables false
set_option linter.unusedSimpArgs false
namespace Go.Proofs.Ytmbpomcbdopgnaa.W
open Go Go.RowKit Go.Proofs.Ytmbpomcbdopgnaa.Fw
attribute [local irreducible] RunK LW AW DV OE Ct
theorem fo59_0 : fieldOffB Try.prog 59 0 = some 0 := by kernel_rfl
theorem fo59_1 : fieldOffB Try.prog 59 1 = some 1 := by kernel_rfl
theorem fo59_2 : fieldOffB Try.prog 59 2 = some 2 := by kernel_rfl
theorem fo59_3 : fieldOffB Try.prog 59 3 = some 3 := by kernel_rfl
set_option maxHeartbeats 1000000 in
theorem toWide_ok {w : World} {z : Int}   : Ct Try.prog 66 [.agg #[.int .u64 (wv3 z), .int .u64 (wv2 z), .int .u64 (wv1 z), .int .u64 (wv0 z)]] w fun v w1 => v = .agg #[.int .u64 (wv3 z), .int .u64 (wv2 z), .int .u64 (wv1 z), .int .u64 (wv0 z)] ∧ Ext w w1 := by
 refine ct_run (n := 17) Try.func66 rfl Try.ntmps66 rfl ?_
 have E0 : Below w.heap.size w w := Below.refl _ _
 refine rk_seq ?_
 refine rk_reg ?_
 refine lw_e (oe_box (v := .agg #[.int .u64 (wv3 z), .int .u64 (wv2 z), .int .u64 (wv1 z), .int .u64 (wv0 z)]) (cs := #[.int .u64 (wv3 z), .int .u64 (wv2 z), .int .u64 (wv1 z), .int .u64 (wv0 z)]) (T rfl rfl) rfl ?_)
 intro b1 w2 n3
 have N4 : w.heap.size ≤ b1 := n3.eq ▸ E0.size
 have E5 := below_ext E0 E0.size n3.ext
 refine lw_e (oe_alloc ze38 ?_)
 intro b6 w7 n8
 have N9 : w.heap.size ≤ b6 := n8.eq ▸ E5.size
 have : b1 < b6 := n8.eq ▸ lt_of_blk n3.blk
 have E10 := below_ext E5 E5.size n8.ext
 refine lw_nil ?_
 refine rk_seq ?_
 refine rk_reg ?_
 refine lw_e (oe_alloc ze38 ?_)
 intro b11 w12 n13
 have N14 : w.heap.size ≤ b11 := n13.eq ▸ E10.size
 have : b6 < b11 := n13.eq ▸ lt_of_blk n8.blk
 have E15 := below_ext E10 E10.size n13.ext
 refine lw_nil ?_
 refine rk_seq ?_
 refine rk_reg ?_
 refine lw_v (.pointer (some ⟨b1, 0, none⟩)) (dv_fieldAddr (a := ⟨b1, 0, none⟩) (a' := ⟨b1, 0, none⟩) fo59_0 (T rfl rfl) rfl) ?_
 have H16 := (n13.ext.blk (n8.ext.blk n3.blk))
 refine lw_v (.int .u64 (wv3 z)) (dv_load1 (b := b1) (o := 0) agt36 (T rfl rfl) H16 rfl) ?_
 refine lw_v (.pointer (some ⟨b11, 0, none⟩)) (dv_fieldAddr (a := ⟨b11, 0, none⟩) (a' := ⟨b11, 0, none⟩) fo38_0 (T rfl rfl) rfl) ?_
 refine lw_e (oe_store (v := .int .u64 (wv3 z)) (vs := [.int .u64 (wv3 z)]) (l := [.int .u64 (wv3 z), .int .u64 0, .int .u64 0, .int .u64 0]) (T rfl rfl) (T rfl rfl) sz36 rfl rfl rfl n13.blk rfl ?_)
 intro w17 s18 H19
 have E20 := below_st E15 N14 s18
 refine lw_nil ?_
 refine rk_seq ?_
 refine rk_reg ?_
 refine lw_v (.pointer (some ⟨b1, 1, none⟩)) (dv_fieldAddr (a := ⟨b1, 0, none⟩) (a' := ⟨b1, 1, none⟩) fo59_1 (T rfl rfl) rfl) ?_
 have H21 := (s18.blk H16 (by omega))
 refine lw_v (.int .u64 (wv2 z)) (dv_load1 (b := b1) (o := 1) agt36 (T rfl rfl) H21 rfl) ?_
 refine lw_v (.pointer (some ⟨b11, 1, none⟩)) (dv_fieldAddr (a := ⟨b11, 0, none⟩) (a' := ⟨b11, 1, none⟩) fo38_1 (T rfl rfl) rfl) ?_
 refine lw_e (oe_store (v := .int .u64 (wv2 z)) (vs := [.int .u64 (wv2 z)]) (l := [.int .u64 (wv3 z), .int .u64 (wv2 z), .int .u64 0, .int .u64 0]) (T rfl rfl) (T rfl rfl) sz36 rfl rfl rfl H19 rfl ?_)
 intro w22 s23 H24
 have E25 := below_st E20 N14 s23
 refine lw_nil ?_
 refine rk_seq ?_
 refine rk_reg ?_
 refine lw_v (.pointer (some ⟨b1, 2, none⟩)) (dv_fieldAddr (a := ⟨b1, 0, none⟩) (a' := ⟨b1, 2, none⟩) fo59_2 (T rfl rfl) rfl) ?_
 have H26 := (s23.blk H21 (by omega))
 refine lw_v (.int .u64 (wv1 z)) (dv_load1 (b := b1) (o := 2) agt36 (T rfl rfl) H26 rfl) ?_
 refine lw_v (.pointer (some ⟨b11, 2, none⟩)) (dv_fieldAddr (a := ⟨b11, 0, none⟩) (a' := ⟨b11, 2, none⟩) fo38_2 (T rfl rfl) rfl) ?_
 refine lw_e (oe_store (v := .int .u64 (wv1 z)) (vs := [.int .u64 (wv1 z)]) (l := [.int .u64 (wv3 z), .int .u64 (wv2 z), .int .u64 (wv1 z), .int .u64 0]) (T rfl rfl) (T rfl rfl) sz36 rfl rfl rfl H24 rfl ?_)
 intro w27 s28 H29
 have E30 := below_st E25 N14 s28
 refine lw_nil ?_
 refine rk_seq ?_
 refine rk_reg ?_
 refine lw_v (.pointer (some ⟨b1, 3, none⟩)) (dv_fieldAddr (a := ⟨b1, 0, none⟩) (a' := ⟨b1, 3, none⟩) fo59_3 (T rfl rfl) rfl) ?_
 have H31 := (s28.blk H26 (by omega))
 refine lw_v (.int .u64 (wv0 z)) (dv_load1 (b := b1) (o := 3) agt36 (T rfl rfl) H31 rfl) ?_
 refine lw_v (.pointer (some ⟨b11, 3, none⟩)) (dv_fieldAddr (a := ⟨b11, 0, none⟩) (a' := ⟨b11, 3, none⟩) fo38_3 (T rfl rfl) rfl) ?_
 refine lw_e (oe_store (v := .int .u64 (wv0 z)) (vs := [.int .u64 (wv0 z)]) (l := [.int .u64 (wv3 z), .int .u64 (wv2 z), .int .u64 (wv1 z), .int .u64 (wv0 z)]) (T rfl rfl) (T rfl rfl) sz36 rfl rfl rfl H29 rfl ?_)
 intro w32 s33 H34
 have E35 := below_st E30 N14 s33
 refine lw_nil ?_
 refine rk_seq ?_
 refine rk_reg ?_
 refine lw_v (.agg #[.int .u64 (wv3 z), .int .u64 (wv2 z), .int .u64 (wv1 z), .int .u64 (wv0 z)]) (dv_loads (l := [.int .u64 (wv3 z), .int .u64 (wv2 z), .int .u64 (wv1 z), .int .u64 (wv0 z)]) agt38 sz38 (T rfl rfl) H34 rfl) ?_
 have H36 := (s33.blk (s28.blk (s23.blk (s18.blk (n13.ext.blk n8.blk) (by omega)) (by omega)) (by omega)) (by omega))
 refine lw_e (oe_store (v := .agg #[.int .u64 (wv3 z), .int .u64 (wv2 z), .int .u64 (wv1 z), .int .u64 (wv0 z)]) (vs := [.int .u64 (wv3 z), .int .u64 (wv2 z), .int .u64 (wv1 z), .int .u64 (wv0 z)]) (l := [.int .u64 (wv3 z), .int .u64 (wv2 z), .int .u64 (wv1 z), .int .u64 (wv0 z)]) (T rfl rfl) (T rfl rfl) sz38 rfl rfl rfl H36 rfl ?_)
 intro w37 s38 H39
 have E40 := below_st E35 N9 s38
 refine lw_nil ?_
 refine rk_ret Try.func66 (v := .agg #[.int .u64 (wv3 z), .int .u64 (wv2 z), .int .u64 (wv1 z), .int .u64 (wv0 z)]) (res1 Try.results66 (rv_cells (l := [.int .u64 (wv3 z), .int .u64 (wv2 z), .int .u64 (wv1 z), .int .u64 (wv0 z)]) agt38 sz38 rfl rfl H39 rfl)) ⟨_, rfl, ?_⟩
 exact ⟨rfl, E40⟩
set_option maxHeartbeats 1000000 in
theorem eqWide_ok {w : World} {x y : Int} (fx_ : fits x) (fy_ : fits y)  : Ct Try.prog 107 [.agg #[.int .u64 (wv3 x), .int .u64 (wv2 x), .int .u64 (wv1 x), .int .u64 (wv0 x)], .agg #[.int .u64 (wv3 y), .int .u64 (wv2 y), .int .u64 (wv1 y), .int .u64 (wv0 y)]] w fun v w1 => v = .bool (decide (x = y)) ∧ Ext w w1 := by
 refine ct_run (n := 25) Try.func107 rfl Try.ntmps107 rfl ?_
 have E0 : Below w.heap.size w w := Below.refl _ _
 refine rk_seq ?_
 refine rk_reg ?_
 refine lw_e (oe_box (v := .agg #[.int .u64 (wv3 x), .int .u64 (wv2 x), .int .u64 (wv1 x), .int .u64 (wv0 x)]) (cs := #[.int .u64 (wv3 x), .int .u64 (wv2 x), .int .u64 (wv1 x), .int .u64 (wv0 x)]) (T rfl rfl) rfl ?_)
 intro b1 w2 n3
 have N4 : w.heap.size ≤ b1 := n3.eq ▸ E0.size
 have E5 := below_ext E0 E0.size n3.ext
 refine lw_e (oe_box (v := .agg #[.int .u64 (wv3 y), .int .u64 (wv2 y), .int .u64 (wv1 y), .int .u64 (wv0 y)]) (cs := #[.int .u64 (wv3 y), .int .u64 (wv2 y), .int .u64 (wv1 y), .int .u64 (wv0 y)]) (T rfl rfl) rfl ?_)
 intro b6 w7 n8
 have N9 : w.heap.size ≤ b6 := n8.eq ▸ E5.size
 have : b1 < b6 := n8.eq ▸ lt_of_blk n3.blk
 have E10 := below_ext E5 E5.size n8.ext
 refine lw_v (.bool false) (dv_assign C) ?_
 refine lw_nil ?_
 refine rk_seq ?_
 refine rk_seq ?_
 refine rk_reg ?_
 refine lw_v (.pointer (some ⟨b1, 0, none⟩)) (dv_fieldAddr (a := ⟨b1, 0, none⟩) (a' := ⟨b1, 0, none⟩) fo38_0 (T rfl rfl) rfl) ?_
 have H11 := (n8.ext.blk n3.blk)
 refine lw_v (.int .u64 (wv3 x)) (dv_load1 (b := b1) (o := 0) agt36 (T rfl rfl) H11 rfl) ?_
 refine lw_v (.pointer (some ⟨b6, 0, none⟩)) (dv_fieldAddr (a := ⟨b6, 0, none⟩) (a' := ⟨b6, 0, none⟩) fo38_0 (T rfl rfl) rfl) ?_
 refine lw_v (.int .u64 (wv3 y)) (dv_load1 (b := b6) (o := 0) agt36 (T rfl rfl) n8.blk rfl) ?_
 refine lw_v (.bool (decide ((wv3 x) ≠ (wv3 y)))) (dv_neq (a := wv3 x) (b := wv3 y) (T rfl rfl) (T rfl rfl)) ?_
 refine lw_nil ?_
 by_cases hb12 : (wv3 x) ≠ (wv3 y)
 · refine rk_ct (T rfl (congrArg Value.bool (decide_eq_true hb12))) ?_
   refine rk_seq ?_
   refine rk_reg ?_
   refine lw_v (.bool false) (dv_assign C) ?_
   refine lw_nil ?_
   refine rk_ret Try.func107 (v := .bool false) (res1 Try.results107 (rv_tmp rfl rfl)) ⟨_, rfl, ?_⟩
   exact ⟨(vf (by intro he; subst he; exact absurd rfl (by assumption))), E10⟩
 · refine rk_cf (T rfl (congrArg Value.bool (decide_eq_false hb12))) ?_
   refine rk_skip ?_
   refine rk_seq ?_
   refine rk_seq ?_
   refine rk_reg ?_
   refine lw_v (.pointer (some ⟨b1, 1, none⟩)) (dv_fieldAddr (a := ⟨b1, 0, none⟩) (a' := ⟨b1, 1, none⟩) fo38_1 (T rfl rfl) rfl) ?_
   refine lw_v (.int .u64 (wv2 x)) (dv_load1 (b := b1) (o := 1) agt36 (T rfl rfl) H11 rfl) ?_
   refine lw_v (.pointer (some ⟨b6, 1, none⟩)) (dv_fieldAddr (a := ⟨b6, 0, none⟩) (a' := ⟨b6, 1, none⟩) fo38_1 (T rfl rfl) rfl) ?_
   refine lw_v (.int .u64 (wv2 y)) (dv_load1 (b := b6) (o := 1) agt36 (T rfl rfl) n8.blk rfl) ?_
   refine lw_v (.bool (decide ((wv2 x) ≠ (wv2 y)))) (dv_neq (a := wv2 x) (b := wv2 y) (T rfl rfl) (T rfl rfl)) ?_
   refine lw_nil ?_
   by_cases hb13 : (wv2 x) ≠ (wv2 y)
   · refine rk_ct (T rfl (congrArg Value.bool (decide_eq_true hb13))) ?_
     refine rk_seq ?_
     refine rk_reg ?_
     refine lw_v (.bool false) (dv_assign C) ?_
     refine lw_nil ?_
     refine rk_ret Try.func107 (v := .bool false) (res1 Try.results107 (rv_tmp rfl rfl)) ⟨_, rfl, ?_⟩
     exact ⟨(vf (by intro he; subst he; exact absurd rfl (by assumption))), E10⟩
   · refine rk_cf (T rfl (congrArg Value.bool (decide_eq_false hb13))) ?_
     refine rk_skip ?_
     refine rk_seq ?_
     refine rk_seq ?_
     refine rk_reg ?_
     refine lw_v (.pointer (some ⟨b1, 2, none⟩)) (dv_fieldAddr (a := ⟨b1, 0, none⟩) (a' := ⟨b1, 2, none⟩) fo38_2 (T rfl rfl) rfl) ?_
     refine lw_v (.int .u64 (wv1 x)) (dv_load1 (b := b1) (o := 2) agt36 (T rfl rfl) H11 rfl) ?_
     refine lw_v (.pointer (some ⟨b6, 2, none⟩)) (dv_fieldAddr (a := ⟨b6, 0, none⟩) (a' := ⟨b6, 2, none⟩) fo38_2 (T rfl rfl) rfl) ?_
     refine lw_v (.int .u64 (wv1 y)) (dv_load1 (b := b6) (o := 2) agt36 (T rfl rfl) n8.blk rfl) ?_
     refine lw_v (.bool (decide ((wv1 x) ≠ (wv1 y)))) (dv_neq (a := wv1 x) (b := wv1 y) (T rfl rfl) (T rfl rfl)) ?_
     refine lw_nil ?_
     by_cases hb14 : (wv1 x) ≠ (wv1 y)
     · refine rk_ct (T rfl (congrArg Value.bool (decide_eq_true hb14))) ?_
       refine rk_seq ?_
       refine rk_reg ?_
       refine lw_v (.bool false) (dv_assign C) ?_
       refine lw_nil ?_
       refine rk_ret Try.func107 (v := .bool false) (res1 Try.results107 (rv_tmp rfl rfl)) ⟨_, rfl, ?_⟩
       exact ⟨(vf (by intro he; subst he; exact absurd rfl (by assumption))), E10⟩
     · refine rk_cf (T rfl (congrArg Value.bool (decide_eq_false hb14))) ?_
       refine rk_skip ?_
       refine rk_seq ?_
       refine rk_seq ?_
       refine rk_reg ?_
       refine lw_v (.pointer (some ⟨b1, 3, none⟩)) (dv_fieldAddr (a := ⟨b1, 0, none⟩) (a' := ⟨b1, 3, none⟩) fo38_3 (T rfl rfl) rfl) ?_
       refine lw_v (.int .u64 (wv0 x)) (dv_load1 (b := b1) (o := 3) agt36 (T rfl rfl) H11 rfl) ?_
       refine lw_v (.pointer (some ⟨b6, 3, none⟩)) (dv_fieldAddr (a := ⟨b6, 0, none⟩) (a' := ⟨b6, 3, none⟩) fo38_3 (T rfl rfl) rfl) ?_
       refine lw_v (.int .u64 (wv0 y)) (dv_load1 (b := b6) (o := 3) agt36 (T rfl rfl) n8.blk rfl) ?_
       refine lw_v (.bool (decide ((wv0 x) ≠ (wv0 y)))) (dv_neq (a := wv0 x) (b := wv0 y) (T rfl rfl) (T rfl rfl)) ?_
       refine lw_nil ?_
       by_cases hb15 : (wv0 x) ≠ (wv0 y)
       · refine rk_ct (T rfl (congrArg Value.bool (decide_eq_true hb15))) ?_
         refine rk_seq ?_
         refine rk_reg ?_
         refine lw_v (.bool false) (dv_assign C) ?_
         refine lw_nil ?_
         refine rk_ret Try.func107 (v := .bool false) (res1 Try.results107 (rv_tmp rfl rfl)) ⟨_, rfl, ?_⟩
         exact ⟨(vf (by intro he; subst he; exact absurd rfl (by assumption))), E10⟩
       · refine rk_cf (T rfl (congrArg Value.bool (decide_eq_false hb15))) ?_
         refine rk_skip ?_
         refine rk_seq ?_
         refine rk_reg ?_
         refine lw_v (.bool true) (dv_assign C) ?_
         refine lw_nil ?_
         refine rk_ret Try.func107 (v := .bool true) (res1 Try.results107 (rv_tmp rfl rfl)) ⟨_, rfl, ?_⟩
         exact ⟨(vt (wv_inj fx_ fy_ (by omega) (by omega) (by omega) (by omega))), E10⟩
end Go.Proofs.Ytmbpomcbdopgnaa.W
set_option linter.unusedVariables false
set_option linter.unusedSimpArgs false
namespace Go.Proofs.Ytmbpomcbdopgnaa.W
open Go Go.RowKit Go.Proofs.Ytmbpomcbdopgnaa.Fw
attribute [local irreducible] RunK LW AW DV OE Ct
theorem agt109 : aggB Try.prog 109 = some true := by kernel_rfl
theorem agt40 : aggB Try.prog 40 = some true := by kernel_rfl
theorem agt59 : aggB Try.prog 59 = some true := by kernel_rfl
theorem agt90 : aggB Try.prog 90 = some true := by kernel_rfl
theorem co100 : callOk Try.prog 100 = true := by kernel_rfl
theorem co101 : callOk Try.prog 101 = true := by kernel_rfl
theorem co105 : callOk Try.prog 105 = true := by kernel_rfl
theorem co109 : callOk Try.prog 109 = true := by kernel_rfl
theorem co113 : callOk Try.prog 113 = true := by kernel_rfl
theorem co52 : callOk Try.prog 52 = true := by kernel_rfl
theorem co62 : callOk Try.prog 62 = true := by kernel_rfl
theorem co66 : callOk Try.prog 66 = true := by kernel_rfl
theorem co68 : callOk Try.prog 68 = true := by kernel_rfl
theorem co69 : callOk Try.prog 69 = true := by kernel_rfl
theorem co71 : callOk Try.prog 71 = true := by kernel_rfl
theorem co96 : callOk Try.prog 96 = true := by kernel_rfl
theorem co97 : callOk Try.prog 97 = true := by kernel_rfl
theorem co98 : callOk Try.prog 98 = true := by kernel_rfl
theorem eg40 : Try.prog.eqGuardType Try.prog.depth 40 = false := by kernel_rfl
theorem fl40 : nestB Try.prog 40 .u64 3 4 = true := by kernel_rfl
theorem fo109_0 : fieldOffB Try.prog 109 0 = some 0 := by kernel_rfl
theorem fo109_1 : fieldOffB Try.prog 109 1 = some 2 := by kernel_rfl
theorem fo109_2 : fieldOffB Try.prog 109 2 = some 4 := by kernel_rfl
theorem fo40_0 : fieldOffB Try.prog 40 0 = some 0 := by kernel_rfl
theorem fo40_1 : fieldOffB Try.prog 40 1 = some 4 := by kernel_rfl
theorem fo40_2 : fieldOffB Try.prog 40 2 = some 8 := by kernel_rfl
theorem fo61_0 : fieldOffB Try.prog 61 0 = some 0 := by kernel_rfl
theorem fo61_1 : fieldOffB Try.prog 61 1 = some 4 := by kernel_rfl
theorem fo61_2 : fieldOffB Try.prog 61 2 = some 8 := by kernel_rfl
theorem fo90_0 : fieldOffB Try.prog 90 0 = some 0 := by kernel_rfl
theorem fo90_1 : fieldOffB Try.prog 90 1 = some 2 := by kernel_rfl
theorem fo90_2 : fieldOffB Try.prog 90 2 = some 4 := by kernel_rfl
theorem pl109 : placesB Try.prog 109 = some [(0, 2), (2, 2), (4, 2)] := by kernel_rfl
theorem pl90 : placesB Try.prog 90 = some [(0, 2), (2, 2), (4, 2)] := by kernel_rfl
theorem sz109 : sizeB Try.prog 109 = some 6 := by kernel_rfl
theorem sz40 : sizeB Try.prog 40 = some 12 := by kernel_rfl
theorem sz59 : sizeB Try.prog 59 = some 4 := by kernel_rfl
theorem sz90 : sizeB Try.prog 90 = some 6 := by kernel_rfl
theorem zc109 : zcB Try.prog 109 = some [.bool false, .slice none 0 0, .bool false, .slice none 0 0, .bool false, .slice none 0 0] := by kernel_rfl
theorem zc90 : zcB Try.prog 90 = some [.bool false, .slice none 0 0, .bool false, .slice none 0 0, .bool false, .slice none 0 0] := by kernel_rfl
theorem ze109 : zeroB Try.prog 109 = some #[.bool false, .slice none 0 0, .bool false, .slice none 0 0, .bool false, .slice none 0 0] := by kernel_rfl
theorem ze40 : zeroB Try.prog 40 = some #[.int .u64 0, .int .u64 0, .int .u64 0, .int .u64 0, .int .u64 0, .int .u64 0, .int .u64 0, .int .u64 0, .int .u64 0, .int .u64 0, .int .u64 0, .int .u64 0] := by kernel_rfl
theorem ze90 : zeroB Try.prog 90 = some #[.bool false, .slice none 0 0, .bool false, .slice none 0 0, .bool false, .slice none 0 0] := by kernel_rfl
set_option maxHeartbeats 1000000 in
theorem toPoint_ok {w : World} {x y u : Int}   : Ct Try.prog 30 [.agg #[.int .u64 (wv3 x), .int .u64 (wv2 x), .int .u64 (wv1 x), .int .u64 (wv0 x), .int .u64 (wv3 y), .int .u64 (wv2 y), .int .u64 (wv1 y), .int .u64 (wv0 y), .int .u64 (wv3 u), .int .u64 (wv2 u), .int .u64 (wv1 u), .int .u64 (wv0 u)]] w fun v w1 => v = .agg #[.int .u64 (wv3 x), .int .u64 (wv2 x), .int .u64 (wv1 x), .int .u64 (wv0 x), .int .u64 (wv3 y), .int .u64 (wv2 y), .int .u64 (wv1 y), .int .u64 (wv0 y), .int .u64 (wv3 u), .int .u64 (wv2 u), .int .u64 (wv1 u), .int .u64 (wv0 u)] ∧ Ext w w1 := by
 refine ct_run (n := 17) Try.func30 rfl Try.ntmps30 rfl ?_
 have E0 : Below w.heap.size w w := Below.refl _ _
 refine rk_seq ?_
 refine rk_reg ?_
 refine lw_e (oe_box (v := .agg #[.int .u64 (wv3 x), .int .u64 (wv2 x), .int .u64 (wv1 x), .int .u64 (wv0 x), .int .u64 (wv3 y), .int .u64 (wv2 y), .int .u64 (wv1 y), .int .u64 (wv0 y), .int .u64 (wv3 u), .int .u64 (wv2 u), .int .u64 (wv1 u), .int .u64 (wv0 u)]) (cs := #[.int .u64 (wv3 x), .int .u64 (wv2 x), .int .u64 (wv1 x), .int .u64 (wv0 x), .int .u64 (wv3 y), .int .u64 (wv2 y), .int .u64 (wv1 y), .int .u64 (wv0 y), .int .u64 (wv3 u), .int .u64 (wv2 u), .int .u64 (wv1 u), .int .u64 (wv0 u)]) (T rfl rfl) rfl ?_)
 intro b1 w2 n3
 have N4 : w.heap.size ≤ b1 := n3.eq ▸ E0.size
 have E5 := below_ext E0 E0.size n3.ext
 refine lw_e (oe_alloc ze40 ?_)
 intro b6 w7 n8
 have N9 : w.heap.size ≤ b6 := n8.eq ▸ E5.size
 have : b1 < b6 := n8.eq ▸ lt_of_blk n3.blk
 have E10 := below_ext E5 E5.size n8.ext
 refine lw_nil ?_
 refine rk_seq ?_
 refine rk_reg ?_
 refine lw_e (oe_alloc ze40 ?_)
 intro b11 w12 n13
 have N14 : w.heap.size ≤ b11 := n13.eq ▸ E10.size
 have : b6 < b11 := n13.eq ▸ lt_of_blk n8.blk
 have E15 := below_ext E10 E10.size n13.ext
 refine lw_nil ?_
 refine rk_seq ?_
 refine rk_reg ?_
 refine lw_v (.pointer (some ⟨b1, 0, none⟩)) (dv_fieldAddr (a := ⟨b1, 0, none⟩) (a' := ⟨b1, 0, none⟩) fo61_0 (T rfl rfl) rfl) ?_
 have H16 := (n13.ext.blk (n8.ext.blk n3.blk))
 refine lw_v (.agg #[.int .u64 (wv3 x), .int .u64 (wv2 x), .int .u64 (wv1 x), .int .u64 (wv0 x)]) (dv_loads (l := [.int .u64 (wv3 x), .int .u64 (wv2 x), .int .u64 (wv1 x), .int .u64 (wv0 x)]) agt59 sz59 (T rfl rfl) H16 rfl) ?_
 refine lw_e (oe_callf (vs := [.agg #[.int .u64 (wv3 x), .int .u64 (wv2 x), .int .u64 (wv1 x), .int .u64 (wv0 x)]]) co66 (ar1 (T rfl rfl)) (toWide_ok (z := x)  ) ?_)
 rintro _ w17 ⟨rfl, e18⟩
 have E19 := below_ext E15 E15.size e18
 refine lw_v (.pointer (some ⟨b11, 0, none⟩)) (dv_fieldAddr (a := ⟨b11, 0, none⟩) (a' := ⟨b11, 0, none⟩) fo40_0 (T rfl rfl) rfl) ?_
 have H20 := (e18.blk n13.blk)
 refine lw_e (oe_store (v := .agg #[.int .u64 (wv3 x), .int .u64 (wv2 x), .int .u64 (wv1 x), .int .u64 (wv0 x)]) (vs := [.int .u64 (wv3 x), .int .u64 (wv2 x), .int .u64 (wv1 x), .int .u64 (wv0 x)]) (l := [.int .u64 (wv3 x), .int .u64 (wv2 x), .int .u64 (wv1 x), .int .u64 (wv0 x), .int .u64 0, .int .u64 0, .int .u64 0, .int .u64 0, .int .u64 0, .int .u64 0, .int .u64 0, .int .u64 0]) (T rfl rfl) (T rfl rfl) sz38 rfl rfl rfl H20 rfl ?_)
 intro w21 s22 H23
 have E24 := below_st E19 N14 s22
 refine lw_nil ?_
 refine rk_seq ?_
 refine rk_reg ?_
 refine lw_v (.pointer (some ⟨b1, 4, none⟩)) (dv_fieldAddr (a := ⟨b1, 0, none⟩) (a' := ⟨b1, 4, none⟩) fo61_1 (T rfl rfl) rfl) ?_
 have H25 := (s22.blk (e18.blk H16) (by omega))
 refine lw_v (.agg #[.int .u64 (wv3 y), .int .u64 (wv2 y), .int .u64 (wv1 y), .int .u64 (wv0 y)]) (dv_loads (l := [.int .u64 (wv3 y), .int .u64 (wv2 y), .int .u64 (wv1 y), .int .u64 (wv0 y)]) agt59 sz59 (T rfl rfl) H25 rfl) ?_
 refine lw_e (oe_callf (vs := [.agg #[.int .u64 (wv3 y), .int .u64 (wv2 y), .int .u64 (wv1 y), .int .u64 (wv0 y)]]) co66 (ar1 (T rfl rfl)) (toWide_ok (z := y)  ) ?_)
 rintro _ w26 ⟨rfl, e27⟩
 have E28 := below_ext E24 E24.size e27
 refine lw_v (.pointer (some ⟨b11, 4, none⟩)) (dv_fieldAddr (a := ⟨b11, 0, none⟩) (a' := ⟨b11, 4, none⟩) fo40_1 (T rfl rfl) rfl) ?_
 have H29 := (e27.blk H23)
 refine lw_e (oe_store (v := .agg #[.int .u64 (wv3 y), .int .u64 (wv2 y), .int .u64 (wv1 y), .int .u64 (wv0 y)]) (vs := [.int .u64 (wv3 y), .int .u64 (wv2 y), .int .u64 (wv1 y), .int .u64 (wv0 y)]) (l := [.int .u64 (wv3 x), .int .u64 (wv2 x), .int .u64 (wv1 x), .int .u64 (wv0 x), .int .u64 (wv3 y), .int .u64 (wv2 y), .int .u64 (wv1 y), .int .u64 (wv0 y), .int .u64 0, .int .u64 0, .int .u64 0, .int .u64 0]) (T rfl rfl) (T rfl rfl) sz38 rfl rfl rfl H29 rfl ?_)
 intro w30 s31 H32
 have E33 := below_st E28 N14 s31
 refine lw_nil ?_
 refine rk_seq ?_
 refine rk_reg ?_
 refine lw_v (.pointer (some ⟨b1, 8, none⟩)) (dv_fieldAddr (a := ⟨b1, 0, none⟩) (a' := ⟨b1, 8, none⟩) fo61_2 (T rfl rfl) rfl) ?_
 have H34 := (s31.blk (e27.blk H25) (by omega))
 refine lw_v (.agg #[.int .u64 (wv3 u), .int .u64 (wv2 u), .int .u64 (wv1 u), .int .u64 (wv0 u)]) (dv_loads (l := [.int .u64 (wv3 u), .int .u64 (wv2 u), .int .u64 (wv1 u), .int .u64 (wv0 u)]) agt59 sz59 (T rfl rfl) H34 rfl) ?_
 refine lw_e (oe_callf (vs := [.agg #[.int .u64 (wv3 u), .int .u64 (wv2 u), .int .u64 (wv1 u), .int .u64 (wv0 u)]]) co66 (ar1 (T rfl rfl)) (toWide_ok (z := u)  ) ?_)
 rintro _ w35 ⟨rfl, e36⟩
 have E37 := below_ext E33 E33.size e36
 refine lw_v (.pointer (some ⟨b11, 8, none⟩)) (dv_fieldAddr (a := ⟨b11, 0, none⟩) (a' := ⟨b11, 8, none⟩) fo40_2 (T rfl rfl) rfl) ?_
 have H38 := (e36.blk H32)
 refine lw_e (oe_store (v := .agg #[.int .u64 (wv3 u), .int .u64 (wv2 u), .int .u64 (wv1 u), .int .u64 (wv0 u)]) (vs := [.int .u64 (wv3 u), .int .u64 (wv2 u), .int .u64 (wv1 u), .int .u64 (wv0 u)]) (l := [.int .u64 (wv3 x), .int .u64 (wv2 x), .int .u64 (wv1 x), .int .u64 (wv0 x), .int .u64 (wv3 y), .int .u64 (wv2 y), .int .u64 (wv1 y), .int .u64 (wv0 y), .int .u64 (wv3 u), .int .u64 (wv2 u), .int .u64 (wv1 u), .int .u64 (wv0 u)]) (T rfl rfl) (T rfl rfl) sz38 rfl rfl rfl H38 rfl ?_)
 intro w39 s40 H41
 have E42 := below_st E37 N14 s40
 refine lw_nil ?_
 refine rk_seq ?_
 refine rk_reg ?_
 refine lw_v (.agg #[.int .u64 (wv3 x), .int .u64 (wv2 x), .int .u64 (wv1 x), .int .u64 (wv0 x), .int .u64 (wv3 y), .int .u64 (wv2 y), .int .u64 (wv1 y), .int .u64 (wv0 y), .int .u64 (wv3 u), .int .u64 (wv2 u), .int .u64 (wv1 u), .int .u64 (wv0 u)]) (dv_loads (l := [.int .u64 (wv3 x), .int .u64 (wv2 x), .int .u64 (wv1 x), .int .u64 (wv0 x), .int .u64 (wv3 y), .int .u64 (wv2 y), .int .u64 (wv1 y), .int .u64 (wv0 y), .int .u64 (wv3 u), .int .u64 (wv2 u), .int .u64 (wv1 u), .int .u64 (wv0 u)]) agt40 sz40 (T rfl rfl) H41 rfl) ?_
 have H43 := (s40.blk (e36.blk (s31.blk (e27.blk (s22.blk (e18.blk (n13.ext.blk n8.blk)) (by omega))) (by omega))) (by omega))
 refine lw_e (oe_store (v := .agg #[.int .u64 (wv3 x), .int .u64 (wv2 x), .int .u64 (wv1 x), .int .u64 (wv0 x), .int .u64 (wv3 y), .int .u64 (wv2 y), .int .u64 (wv1 y), .int .u64 (wv0 y), .int .u64 (wv3 u), .int .u64 (wv2 u), .int .u64 (wv1 u), .int .u64 (wv0 u)]) (vs := [.int .u64 (wv3 x), .int .u64 (wv2 x), .int .u64 (wv1 x), .int .u64 (wv0 x), .int .u64 (wv3 y), .int .u64 (wv2 y), .int .u64 (wv1 y), .int .u64 (wv0 y), .int .u64 (wv3 u), .int .u64 (wv2 u), .int .u64 (wv1 u), .int .u64 (wv0 u)]) (l := [.int .u64 (wv3 x), .int .u64 (wv2 x), .int .u64 (wv1 x), .int .u64 (wv0 x), .int .u64 (wv3 y), .int .u64 (wv2 y), .int .u64 (wv1 y), .int .u64 (wv0 y), .int .u64 (wv3 u), .int .u64 (wv2 u), .int .u64 (wv1 u), .int .u64 (wv0 u)]) (T rfl rfl) (T rfl rfl) sz40 rfl rfl rfl H43 rfl ?_)
 intro w44 s45 H46
 have E47 := below_st E42 N9 s45
 refine lw_nil ?_
 refine rk_ret Try.func30 (v := .agg #[.int .u64 (wv3 x), .int .u64 (wv2 x), .int .u64 (wv1 x), .int .u64 (wv0 x), .int .u64 (wv3 y), .int .u64 (wv2 y), .int .u64 (wv1 y), .int .u64 (wv0 y), .int .u64 (wv3 u), .int .u64 (wv2 u), .int .u64 (wv1 u), .int .u64 (wv0 u)]) (res1 Try.results30 (rv_cells (l := [.int .u64 (wv3 x), .int .u64 (wv2 x), .int .u64 (wv1 x), .int .u64 (wv0 x), .int .u64 (wv3 y), .int .u64 (wv2 y), .int .u64 (wv1 y), .int .u64 (wv0 y), .int .u64 (wv3 u), .int .u64 (wv2 u), .int .u64 (wv1 u), .int .u64 (wv0 u)]) agt40 sz40 rfl rfl H46 rfl)) ⟨_, rfl, ?_⟩
 exact ⟨rfl, E47⟩
set_option maxHeartbeats 1000000 in
theorem l3Small_ok {w : World}  {na : Bool} {Aa : Option Addr} {la ca : Nat} {x : Int} {sx : Nat} (ha : Num 32 168 .u32 w na Aa la ca x sx) {nb : Bool} {Ab : Option Addr} {lb cb : Nat} {y : Int} {sy : Nat} (hb : Num 32 168 .u32 w nb Ab lb cb y sy) {nm : Bool} {Am : Option Addr} {lm cm : Nat} {u : Int} {su : Nat} (hm : Num 32 168 .u32 w nm Am lm cm u su) (hbsx : sx ≤ 100000) (hbsy : sy ≤ 100000) (hbsu : su ≤ 100000)  : Ct Try.prog 96 [.agg #[.bool na, .slice Aa la ca, .bool nb, .slice Ab lb cb, .bool nm, .slice Am lm cm]] w fun v w1 => v = .bool (decide (sm3 x y u)) ∧ Ext w w1 := by
 refine ct_run (n := 22) Try.func96 rfl Try.ntmps96 rfl ?_
 have E0 : Below w.heap.size w w := Below.refl _ _
 have lha := Num.len (by decide) ha
 have lhb := Num.len (by decide) hb
 have lhm := Num.len (by decide) hm
 refine rk_seq ?_
 refine rk_reg ?_
 refine lw_e (oe_box (v := .agg #[.bool na, .slice Aa la ca, .bool nb, .slice Ab lb cb, .bool nm, .slice Am lm cm]) (cs := #[.bool na, .slice Aa la ca, .bool nb, .slice Ab lb cb, .bool nm, .slice Am lm cm]) (T rfl rfl) rfl ?_)
 intro b1 w2 n3
 have N4 : w.heap.size ≤ b1 := n3.eq ▸ E0.size
 have E5 := below_ext E0 E0.size n3.ext
 refine lw_v (.bool false) (dv_assign C) ?_
 refine lw_nil ?_
 refine rk_seq ?_
 refine rk_reg ?_
 refine lw_v (.pointer (some ⟨b1, 0, none⟩)) (dv_fieldAddr (a := ⟨b1, 0, none⟩) (a' := ⟨b1, 0, none⟩) fo90_0 (T rfl rfl) rfl) ?_
 refine lw_v (.pointer (some ⟨b1, 1, none⟩)) (dv_fieldAddr (a := ⟨b1, 0, none⟩) (a' := ⟨b1, 1, none⟩) fo88_1 (T rfl rfl) rfl) ?_
 refine lw_v (.slice Aa la ca) (dv_load1 (b := b1) (o := 1) agt86 (T rfl rfl) n3.blk rfl) ?_
 have h6 := (ha.ext n3.ext)
 refine lw_e (oe_callf (vs := [.slice Aa la ca]) co128 (ar1 (T rfl rfl)) (l1Bits_wc h6.wc (by first | omega | (simp; done) | (simp; omega))) ?_)
 rintro _ w7 ⟨rfl, e8⟩
 have E9 := below_ext E5 E5.size e8
 refine lw_v (.bool (decide (((nbits ((x.natAbs : Int)).toNat : Int)) ≤ 80))) (dv_leq (a := (nbits ((x.natAbs : Int)).toNat : Int)) (b := 80) (T rfl rfl) C) ?_
 refine lw_v (.bool (decide (((nbits ((x.natAbs : Int)).toNat : Int)) ≤ 80))) (dv_move (T rfl rfl)) ?_
 by_cases hb10 : ((nbits ((x.natAbs : Int)).toNat : Int)) ≤ 80
 · refine lw_vy (.pointer (some ⟨b1, 2, none⟩)) (d := 8) rfl rfl (congrArg Value.bool (decide_eq_true hb10)) (dv_fieldAddr (a := ⟨b1, 0, none⟩) (a' := ⟨b1, 2, none⟩) fo90_1 (T rfl rfl) rfl) ?_
   refine lw_vy (.pointer (some ⟨b1, 3, none⟩)) (d := 8) rfl rfl (congrArg Value.bool (decide_eq_true hb10)) (dv_fieldAddr (a := ⟨b1, 2, none⟩) (a' := ⟨b1, 3, none⟩) fo88_1 (T rfl rfl) rfl) ?_
   have H11 := (e8.blk n3.blk)
   refine lw_vy (.slice Ab lb cb) (d := 8) rfl rfl (congrArg Value.bool (decide_eq_true hb10)) (dv_load1 (b := b1) (o := 3) agt86 (T rfl rfl) H11 rfl) ?_
   have h12 := ((hb.ext n3.ext).ext e8)
   refine lw_ey (d := 8) rfl rfl (congrArg Value.bool (decide_eq_true hb10)) (oe_callf (vs := [.slice Ab lb cb]) co128 (ar1 (T rfl rfl)) (l1Bits_wc h12.wc (by first | omega | (simp; done) | (simp; omega))) ?_)
   rintro _ w13 ⟨rfl, e14⟩
   have E15 := below_ext E9 E9.size e14
   refine lw_vy (.bool (decide (((nbits ((y.natAbs : Int)).toNat : Int)) ≤ 80))) (d := 8) rfl rfl (congrArg Value.bool (decide_eq_true hb10)) (dv_leq (a := (nbits ((y.natAbs : Int)).toNat : Int)) (b := 80) (T rfl rfl) C) ?_
   refine lw_v (.bool (decide (((nbits ((y.natAbs : Int)).toNat : Int)) ≤ 80))) (dv_pick_t (T rfl (congrArg Value.bool (decide_eq_true hb10))) (T rfl rfl)) ?_
   refine lw_v (.bool (decide (((nbits ((y.natAbs : Int)).toNat : Int)) ≤ 80))) (dv_move (T rfl rfl)) ?_
   by_cases hb16 : ((nbits ((y.natAbs : Int)).toNat : Int)) ≤ 80
   · refine lw_vy (.pointer (some ⟨b1, 4, none⟩)) (d := 15) rfl rfl (congrArg Value.bool (decide_eq_true hb16)) (dv_fieldAddr (a := ⟨b1, 0, none⟩) (a' := ⟨b1, 4, none⟩) fo90_2 (T rfl rfl) rfl) ?_
     refine lw_vy (.pointer (some ⟨b1, 5, none⟩)) (d := 15) rfl rfl (congrArg Value.bool (decide_eq_true hb16)) (dv_fieldAddr (a := ⟨b1, 4, none⟩) (a' := ⟨b1, 5, none⟩) fo88_1 (T rfl rfl) rfl) ?_
     have H17 := (e14.blk H11)
     refine lw_vy (.slice Am lm cm) (d := 15) rfl rfl (congrArg Value.bool (decide_eq_true hb16)) (dv_load1 (b := b1) (o := 5) agt86 (T rfl rfl) H17 rfl) ?_
     have h18 := (((hm.ext n3.ext).ext e8).ext e14)
     refine lw_ey (d := 15) rfl rfl (congrArg Value.bool (decide_eq_true hb16)) (oe_callf (vs := [.slice Am lm cm]) co128 (ar1 (T rfl rfl)) (l1Bits_wc h18.wc (by first | omega | (simp; done) | (simp; omega))) ?_)
     rintro _ w19 ⟨rfl, e20⟩
     have E21 := below_ext E15 E15.size e20
     refine lw_vy (.bool (decide (((nbits ((u.natAbs : Int)).toNat : Int)) ≤ 80))) (d := 15) rfl rfl (congrArg Value.bool (decide_eq_true hb16)) (dv_leq (a := (nbits ((u.natAbs : Int)).toNat : Int)) (b := 80) (T rfl rfl) C) ?_
     refine lw_v (.bool (decide (((nbits ((u.natAbs : Int)).toNat : Int)) ≤ 80))) (dv_pick_t (T rfl (congrArg Value.bool (decide_eq_true hb16))) (T rfl rfl)) ?_
     refine lw_v (.bool (decide (((nbits ((u.natAbs : Int)).toNat : Int)) ≤ 80))) (dv_assign (T rfl rfl)) ?_
     refine lw_nil ?_
     refine rk_ret Try.func96 (v := .bool (decide (((nbits ((u.natAbs : Int)).toNat : Int)) ≤ 80))) (res1 Try.results96 (rv_tmp rfl rfl)) ⟨_, rfl, ?_⟩
     exact ⟨(vb (by unfold sm3; omega)), E21⟩
   · refine lw_no (d := 15) rfl rfl (congrArg Value.bool (decide_eq_false hb16)) ?_
     refine lw_no (d := 15) rfl rfl (congrArg Value.bool (decide_eq_false hb16)) ?_
     refine lw_no (d := 15) rfl rfl (congrArg Value.bool (decide_eq_false hb16)) ?_
     refine lw_no (d := 15) rfl rfl (congrArg Value.bool (decide_eq_false hb16)) ?_
     refine lw_no (d := 15) rfl rfl (congrArg Value.bool (decide_eq_false hb16)) ?_
     refine lw_v (.bool false) (dv_pick_f (T rfl (congrArg Value.bool (decide_eq_false hb16))) C) ?_
     refine lw_v (.bool false) (dv_assign (T rfl rfl)) ?_
     refine lw_nil ?_
     refine rk_ret Try.func96 (v := .bool false) (res1 Try.results96 (rv_tmp rfl rfl)) ⟨_, rfl, ?_⟩
     exact ⟨(vf (by unfold sm3; omega)), E15⟩
 · refine lw_no (d := 8) rfl rfl (congrArg Value.bool (decide_eq_false hb10)) ?_
   refine lw_no (d := 8) rfl rfl (congrArg Value.bool (decide_eq_false hb10)) ?_
   refine lw_no (d := 8) rfl rfl (congrArg Value.bool (decide_eq_false hb10)) ?_
   refine lw_no (d := 8) rfl rfl (congrArg Value.bool (decide_eq_false hb10)) ?_
   refine lw_no (d := 8) rfl rfl (congrArg Value.bool (decide_eq_false hb10)) ?_
   refine lw_v (.bool false) (dv_pick_f (T rfl (congrArg Value.bool (decide_eq_false hb10))) C) ?_
   refine lw_v (.bool false) (dv_move (T rfl rfl)) ?_
   refine lw_no (d := 15) rfl rfl (rfl) ?_
   refine lw_no (d := 15) rfl rfl (rfl) ?_
   refine lw_no (d := 15) rfl rfl (rfl) ?_
   refine lw_no (d := 15) rfl rfl (rfl) ?_
   refine lw_no (d := 15) rfl rfl (rfl) ?_
   refine lw_v (.bool false) (dv_pick_f (T rfl rfl) C) ?_
   refine lw_v (.bool false) (dv_assign (T rfl rfl)) ?_
   refine lw_nil ?_
   refine rk_ret Try.func96 (v := .bool false) (res1 Try.results96 (rv_tmp rfl rfl)) ⟨_, rfl, ?_⟩
   exact ⟨(vf (by unfold sm3; omega)), E9⟩
set_option maxHeartbeats 1000000 in
theorem spot_ok {w : World}  {x y u : Int} (fx_ : fits x) (fy_ : fits y) (fu_ : fits u)   : Ct Try.prog 68 [.agg #[.int .u64 (wv3 x), .int .u64 (wv2 x), .int .u64 (wv1 x), .int .u64 (wv0 x), .int .u64 (wv3 y), .int .u64 (wv2 y), .int .u64 (wv1 y), .int .u64 (wv0 y), .int .u64 (wv3 u), .int .u64 (wv2 u), .int .u64 (wv1 u), .int .u64 (wv0 u)]] w fun v w1 => ∃ nr0_ A0_ l0_ c0_ nr1_ A1_ l1_ c1_ nr2_ A2_ l2_ c2_, v = .agg #[.bool nr0_, .slice A0_ l0_ c0_, .bool nr1_, .slice A1_ l1_ c1_, .bool nr2_, .slice A2_ l2_ c2_] ∧ Ext w w1 ∧ Num 64 36 .u64 w1 nr0_ A0_ l0_ c0_ (x) (256) ∧ Num 64 36 .u64 w1 nr1_ A1_ l1_ c1_ (y) (256) ∧ Num 64 36 .u64 w1 nr2_ A2_ l2_ c2_ (u) (256) := by
 refine ct_run (n := 13) Try.func68 rfl Try.ntmps68 rfl ?_
 have E0 : Below w.heap.size w w := Below.refl _ _
 refine rk_seq ?_
 refine rk_reg ?_
 refine lw_e (oe_box (v := .agg #[.int .u64 (wv3 x), .int .u64 (wv2 x), .int .u64 (wv1 x), .int .u64 (wv0 x), .int .u64 (wv3 y), .int .u64 (wv2 y), .int .u64 (wv1 y), .int .u64 (wv0 y), .int .u64 (wv3 u), .int .u64 (wv2 u), .int .u64 (wv1 u), .int .u64 (wv0 u)]) (cs := #[.int .u64 (wv3 x), .int .u64 (wv2 x), .int .u64 (wv1 x), .int .u64 (wv0 x), .int .u64 (wv3 y), .int .u64 (wv2 y), .int .u64 (wv1 y), .int .u64 (wv0 y), .int .u64 (wv3 u), .int .u64 (wv2 u), .int .u64 (wv1 u), .int .u64 (wv0 u)]) (T rfl rfl) rfl ?_)
 intro b1 w2 n3
 have N4 : w.heap.size ≤ b1 := n3.eq ▸ E0.size
 have E5 := below_ext E0 E0.size n3.ext
 refine lw_e (oe_alloc ze109 ?_)
 intro b6 w7 n8
 have N9 : w.heap.size ≤ b6 := n8.eq ▸ E5.size
 have : b1 < b6 := n8.eq ▸ lt_of_blk n3.blk
 have E10 := below_ext E5 E5.size n8.ext
 refine lw_nil ?_
 refine rk_seq ?_
 refine rk_any (fun w => w.heap[b1]? = some (.cells #[.int .u64 (wv3 x), .int .u64 (wv2 x), .int .u64 (wv1 x), .int .u64 (wv0 x), .int .u64 (wv3 y), .int .u64 (wv2 y), .int .u64 (wv1 y), .int .u64 (wv0 y), .int .u64 (wv3 u), .int .u64 (wv2 u), .int .u64 (wv1 u), .int .u64 (wv0 u)] 40)) [10] mo ?_
 intro w11 d12
 have E13 := below_ext E10 E10.size d12.ext
 have H14 := (d12.ext.blk (n8.ext.blk n3.blk))
 refine aw_pure 0 (.pointer (some ⟨b1, 0, none⟩)) rfl (by kernel_rfl) .none H14 (fun _ => dv_fieldAddr (a := ⟨b1, 0, none⟩) (a' := ⟨b1, 0, none⟩) fo40_0 (T rfl rfl) rfl) ?_
 refine aw_load 1 (.agg #[.int .u64 (wv3 x), .int .u64 (wv2 x), .int .u64 (wv1 x), .int .u64 (wv0 x)]) rfl (by kernel_rfl) .none H14 (fun _ s => dv_loads (l := [.int .u64 (wv3 x), .int .u64 (wv2 x), .int .u64 (wv1 x), .int .u64 (wv0 x)]) agt38 sz38 (T rfl rfl) s rfl) ?_
 refine aw_pure 3 (.pointer (some ⟨b1, 4, none⟩)) rfl (by kernel_rfl) .none H14 (fun _ => dv_fieldAddr (a := ⟨b1, 0, none⟩) (a' := ⟨b1, 4, none⟩) fo40_1 (T rfl rfl) rfl) ?_
 refine aw_load 4 (.agg #[.int .u64 (wv3 y), .int .u64 (wv2 y), .int .u64 (wv1 y), .int .u64 (wv0 y)]) rfl (by kernel_rfl) .none H14 (fun _ s => dv_loads (l := [.int .u64 (wv3 y), .int .u64 (wv2 y), .int .u64 (wv1 y), .int .u64 (wv0 y)]) agt38 sz38 (T rfl rfl) s rfl) ?_
 refine aw_pure 6 (.pointer (some ⟨b1, 8, none⟩)) rfl (by kernel_rfl) .none H14 (fun _ => dv_fieldAddr (a := ⟨b1, 0, none⟩) (a' := ⟨b1, 8, none⟩) fo40_2 (T rfl rfl) rfl) ?_
 refine aw_load 7 (.agg #[.int .u64 (wv3 u), .int .u64 (wv2 u), .int .u64 (wv1 u), .int .u64 (wv0 u)]) rfl (by kernel_rfl) .none H14 (fun _ s => dv_loads (l := [.int .u64 (wv3 u), .int .u64 (wv2 u), .int .u64 (wv1 u), .int .u64 (wv0 u)]) agt38 sz38 (T rfl rfl) s rfl) ?_
 refine aw_one 2 rfl (by kernel_rfl) .none (oe_callf (vs := [.agg #[.int .u64 (wv3 x), .int .u64 (wv2 x), .int .u64 (wv1 x), .int .u64 (wv0 x)]]) co113 (ar1 (T rfl rfl)) (wnumz_ok (z := x) fx_) ?_)
 rintro _ w20 ⟨nr15, A16, n17, c18, rfl, e21, h19⟩
 have E22 := below_ext E13 E13.size e21
 have lh19 := Num.len (by decide) h19
 have H23 := (e21.blk H14)
 refine ⟨.inr H23, ?_⟩
 refine aw_one 5 rfl (by kernel_rfl) .none (oe_callf (vs := [.agg #[.int .u64 (wv3 y), .int .u64 (wv2 y), .int .u64 (wv1 y), .int .u64 (wv0 y)]]) co113 (ar1 (T rfl rfl)) (wnumz_ok (z := y) fy_) ?_)
 rintro _ w29 ⟨nr24, A25, n26, c27, rfl, e30, h28⟩
 have E31 := below_ext E22 E22.size e30
 have lh28 := Num.len (by decide) h28
 have H32 := (e30.blk H23)
 refine ⟨.inr H32, ?_⟩
 refine aw_one 8 rfl (by kernel_rfl) .none (oe_callf (vs := [.agg #[.int .u64 (wv3 u), .int .u64 (wv2 u), .int .u64 (wv1 u), .int .u64 (wv0 u)]]) co113 (ar1 (T rfl rfl)) (wnumz_ok (z := u) fu_) ?_)
 rintro _ w38 ⟨nr33, A34, n35, c36, rfl, e39, h37⟩
 have E40 := below_ext E31 E31.size e39
 have lh37 := Num.len (by decide) h37
 have H41 := (e39.blk H32)
 refine ⟨.inr H41, ?_⟩
 refine aw_pure 9 (.agg #[.bool nr15, .slice A16 n17 c18, .bool nr24, .slice A25 n26 c27, .bool nr33, .slice A34 n35 c36]) rfl (by kernel_rfl) .none H41 (fun _ => dv_build (pv := [(0, .agg #[.bool nr15, .slice A16 n17 c18]), (1, .agg #[.bool nr24, .slice A25 n26 c27]), (2, .agg #[.bool nr33, .slice A34 n35 c36])]) (l := [.bool nr15, .slice A16 n17 c18, .bool nr24, .slice A25 n26 c27, .bool nr33, .slice A34 n35 c36]) zc109 pl109 ⟨rfl, (T rfl rfl), ⟨rfl, (T rfl rfl), ⟨rfl, (T rfl rfl), trivial⟩⟩⟩ rfl) ?_
 have H42 := (e39.blk (e30.blk (e21.blk (d12.ext.blk n8.blk))))
 refine aw_one 10 rfl (by kernel_rfl) .none (oe_store (v := .agg #[.bool nr15, .slice A16 n17 c18, .bool nr24, .slice A25 n26 c27, .bool nr33, .slice A34 n35 c36]) (vs := [.bool nr15, .slice A16 n17 c18, .bool nr24, .slice A25 n26 c27, .bool nr33, .slice A34 n35 c36]) (l := [.bool nr15, .slice A16 n17 c18, .bool nr24, .slice A25 n26 c27, .bool nr33, .slice A34 n35 c36]) (T rfl rfl) (T rfl rfl) sz109 rfl rfl rfl H42 rfl ?_)
 intro w43 s44 H45
 have E46 := below_st E40 N9 s44
 refine ⟨.inl rfl, ?_⟩
 refine aw_done (by kernel_rfl) ?_
 refine rk_ret Try.func68 (v := .agg #[.bool nr15, .slice A16 n17 c18, .bool nr24, .slice A25 n26 c27, .bool nr33, .slice A34 n35 c36]) (res1 Try.results68 (rv_cells (l := [.bool nr15, .slice A16 n17 c18, .bool nr24, .slice A25 n26 c27, .bool nr33, .slice A34 n35 c36]) agt109 sz109 rfl rfl H45 rfl)) ⟨_, rfl, ?_⟩
 have h47 := (((h19.ext e30).ext e39).st s44 H42 (by decide))
 have h48 := ((h28.ext e39).st s44 H42 (by decide))
 have h49 := (h37.st s44 H42 (by decide))
 exact ⟨_, _, _, _, _, _, _, _, _, _, _, _, rfl, E46, h47.to rfl (Nat.le_refl _), h48.to rfl (Nat.le_refl _), h49.to rfl (Nat.le_refl _)⟩
set_option maxHeartbeats 1000000 in
theorem l3Of_ok {w : World}  {x y u : Int} (fx_ : fits x) (fy_ : fits y) (fu_ : fits u)   : Ct Try.prog 52 [.agg #[.int .u64 (wv3 x), .int .u64 (wv2 x), .int .u64 (wv1 x), .int .u64 (wv0 x), .int .u64 (wv3 y), .int .u64 (wv2 y), .int .u64 (wv1 y), .int .u64 (wv0 y), .int .u64 (wv3 u), .int .u64 (wv2 u), .int .u64 (wv1 u), .int .u64 (wv0 u)]] w fun v w1 => ∃ nr0_ A0_ l0_ c0_ nr1_ A1_ l1_ c1_ nr2_ A2_ l2_ c2_, v = .agg #[.bool nr0_, .slice A0_ l0_ c0_, .bool nr1_, .slice A1_ l1_ c1_, .bool nr2_, .slice A2_ l2_ c2_] ∧ Ext w w1 ∧ Num 32 168 .u32 w1 nr0_ A0_ l0_ c0_ (x) (256) ∧ Num 32 168 .u32 w1 nr1_ A1_ l1_ c1_ (y) (256) ∧ Num 32 168 .u32 w1 nr2_ A2_ l2_ c2_ (u) (256) := by
 refine ct_run (n := 13) Try.func52 rfl Try.ntmps52 rfl ?_
 have E0 : Below w.heap.size w w := Below.refl _ _
 refine rk_seq ?_
 refine rk_reg ?_
 refine lw_e (oe_box (v := .agg #[.int .u64 (wv3 x), .int .u64 (wv2 x), .int .u64 (wv1 x), .int .u64 (wv0 x), .int .u64 (wv3 y), .int .u64 (wv2 y), .int .u64 (wv1 y), .int .u64 (wv0 y), .int .u64 (wv3 u), .int .u64 (wv2 u), .int .u64 (wv1 u), .int .u64 (wv0 u)]) (cs := #[.int .u64 (wv3 x), .int .u64 (wv2 x), .int .u64 (wv1 x), .int .u64 (wv0 x), .int .u64 (wv3 y), .int .u64 (wv2 y), .int .u64 (wv1 y), .int .u64 (wv0 y), .int .u64 (wv3 u), .int .u64 (wv2 u), .int .u64 (wv1 u), .int .u64 (wv0 u)]) (T rfl rfl) rfl ?_)
 intro b1 w2 n3
 have N4 : w.heap.size ≤ b1 := n3.eq ▸ E0.size
 have E5 := below_ext E0 E0.size n3.ext
 refine lw_e (oe_alloc ze90 ?_)
 intro b6 w7 n8
 have N9 : w.heap.size ≤ b6 := n8.eq ▸ E5.size
 have : b1 < b6 := n8.eq ▸ lt_of_blk n3.blk
 have E10 := below_ext E5 E5.size n8.ext
 refine lw_nil ?_
 refine rk_seq ?_
 refine rk_any (fun w => w.heap[b1]? = some (.cells #[.int .u64 (wv3 x), .int .u64 (wv2 x), .int .u64 (wv1 x), .int .u64 (wv0 x), .int .u64 (wv3 y), .int .u64 (wv2 y), .int .u64 (wv1 y), .int .u64 (wv0 y), .int .u64 (wv3 u), .int .u64 (wv2 u), .int .u64 (wv1 u), .int .u64 (wv0 u)] 40)) [10] mo ?_
 intro w11 d12
 have E13 := below_ext E10 E10.size d12.ext
 have H14 := (d12.ext.blk (n8.ext.blk n3.blk))
 refine aw_pure 0 (.pointer (some ⟨b1, 0, none⟩)) rfl (by kernel_rfl) .none H14 (fun _ => dv_fieldAddr (a := ⟨b1, 0, none⟩) (a' := ⟨b1, 0, none⟩) fo40_0 (T rfl rfl) rfl) ?_
 refine aw_load 1 (.agg #[.int .u64 (wv3 x), .int .u64 (wv2 x), .int .u64 (wv1 x), .int .u64 (wv0 x)]) rfl (by kernel_rfl) .none H14 (fun _ s => dv_loads (l := [.int .u64 (wv3 x), .int .u64 (wv2 x), .int .u64 (wv1 x), .int .u64 (wv0 x)]) agt38 sz38 (T rfl rfl) s rfl) ?_
 refine aw_pure 3 (.pointer (some ⟨b1, 4, none⟩)) rfl (by kernel_rfl) .none H14 (fun _ => dv_fieldAddr (a := ⟨b1, 0, none⟩) (a' := ⟨b1, 4, none⟩) fo40_1 (T rfl rfl) rfl) ?_
 refine aw_load 4 (.agg #[.int .u64 (wv3 y), .int .u64 (wv2 y), .int .u64 (wv1 y), .int .u64 (wv0 y)]) rfl (by kernel_rfl) .none H14 (fun _ s => dv_loads (l := [.int .u64 (wv3 y), .int .u64 (wv2 y), .int .u64 (wv1 y), .int .u64 (wv0 y)]) agt38 sz38 (T rfl rfl) s rfl) ?_
 refine aw_pure 6 (.pointer (some ⟨b1, 8, none⟩)) rfl (by kernel_rfl) .none H14 (fun _ => dv_fieldAddr (a := ⟨b1, 0, none⟩) (a' := ⟨b1, 8, none⟩) fo40_2 (T rfl rfl) rfl) ?_
 refine aw_load 7 (.agg #[.int .u64 (wv3 u), .int .u64 (wv2 u), .int .u64 (wv1 u), .int .u64 (wv0 u)]) rfl (by kernel_rfl) .none H14 (fun _ s => dv_loads (l := [.int .u64 (wv3 u), .int .u64 (wv2 u), .int .u64 (wv1 u), .int .u64 (wv0 u)]) agt38 sz38 (T rfl rfl) s rfl) ?_
 refine aw_one 2 rfl (by kernel_rfl) .none (oe_callf (vs := [.agg #[.int .u64 (wv3 x), .int .u64 (wv2 x), .int .u64 (wv1 x), .int .u64 (wv0 x)]]) co101 (ar1 (T rfl rfl)) (l1Fromz_ok (z := x) fx_) ?_)
 rintro _ w20 ⟨nr15, A16, n17, c18, rfl, e21, h19⟩
 have E22 := below_ext E13 E13.size e21
 have lh19 := Num.len (by decide) h19
 have H23 := (e21.blk H14)
 refine ⟨.inr H23, ?_⟩
 refine aw_one 5 rfl (by kernel_rfl) .none (oe_callf (vs := [.agg #[.int .u64 (wv3 y), .int .u64 (wv2 y), .int .u64 (wv1 y), .int .u64 (wv0 y)]]) co101 (ar1 (T rfl rfl)) (l1Fromz_ok (z := y) fy_) ?_)
 rintro _ w29 ⟨nr24, A25, n26, c27, rfl, e30, h28⟩
 have E31 := below_ext E22 E22.size e30
 have lh28 := Num.len (by decide) h28
 have H32 := (e30.blk H23)
 refine ⟨.inr H32, ?_⟩
 refine aw_one 8 rfl (by kernel_rfl) .none (oe_callf (vs := [.agg #[.int .u64 (wv3 u), .int .u64 (wv2 u), .int .u64 (wv1 u), .int .u64 (wv0 u)]]) co101 (ar1 (T rfl rfl)) (l1Fromz_ok (z := u) fu_) ?_)
 rintro _ w38 ⟨nr33, A34, n35, c36, rfl, e39, h37⟩
 have E40 := below_ext E31 E31.size e39
 have lh37 := Num.len (by decide) h37
 have H41 := (e39.blk H32)
 refine ⟨.inr H41, ?_⟩
 refine aw_pure 9 (.agg #[.bool nr15, .slice A16 n17 c18, .bool nr24, .slice A25 n26 c27, .bool nr33, .slice A34 n35 c36]) rfl (by kernel_rfl) .none H41 (fun _ => dv_build (pv := [(0, .agg #[.bool nr15, .slice A16 n17 c18]), (1, .agg #[.bool nr24, .slice A25 n26 c27]), (2, .agg #[.bool nr33, .slice A34 n35 c36])]) (l := [.bool nr15, .slice A16 n17 c18, .bool nr24, .slice A25 n26 c27, .bool nr33, .slice A34 n35 c36]) zc90 pl90 ⟨rfl, (T rfl rfl), ⟨rfl, (T rfl rfl), ⟨rfl, (T rfl rfl), trivial⟩⟩⟩ rfl) ?_
 have H42 := (e39.blk (e30.blk (e21.blk (d12.ext.blk n8.blk))))
 refine aw_one 10 rfl (by kernel_rfl) .none (oe_store (v := .agg #[.bool nr15, .slice A16 n17 c18, .bool nr24, .slice A25 n26 c27, .bool nr33, .slice A34 n35 c36]) (vs := [.bool nr15, .slice A16 n17 c18, .bool nr24, .slice A25 n26 c27, .bool nr33, .slice A34 n35 c36]) (l := [.bool nr15, .slice A16 n17 c18, .bool nr24, .slice A25 n26 c27, .bool nr33, .slice A34 n35 c36]) (T rfl rfl) (T rfl rfl) sz90 rfl rfl rfl H42 rfl ?_)
 intro w43 s44 H45
 have E46 := below_st E40 N9 s44
 refine ⟨.inl rfl, ?_⟩
 refine aw_done (by kernel_rfl) ?_
 refine rk_ret Try.func52 (v := .agg #[.bool nr15, .slice A16 n17 c18, .bool nr24, .slice A25 n26 c27, .bool nr33, .slice A34 n35 c36]) (res1 Try.results52 (rv_cells (l := [.bool nr15, .slice A16 n17 c18, .bool nr24, .slice A25 n26 c27, .bool nr33, .slice A34 n35 c36]) agt90 sz90 rfl rfl H45 rfl)) ⟨_, rfl, ?_⟩
 have h47 := (((h19.ext e30).ext e39).st s44 H42 (by decide))
 have h48 := ((h28.ext e39).st s44 H42 (by decide))
 have h49 := (h37.st s44 H42 (by decide))
 exact ⟨_, _, _, _, _, _, _, _, _, _, _, _, rfl, E46, h47.to rfl (Nat.le_refl _), h48.to rfl (Nat.le_refl _), h49.to rfl (Nat.le_refl _)⟩
set_option maxHeartbeats 1000000 in
theorem sPointOk_ok {w : World} {x y u : Int} (fx_ : fits x) (fy_ : fits y) (fu_ : fits u)  : Ct Try.prog 50 [.agg #[.int .u64 (wv3 x), .int .u64 (wv2 x), .int .u64 (wv1 x), .int .u64 (wv0 x), .int .u64 (wv3 y), .int .u64 (wv2 y), .int .u64 (wv1 y), .int .u64 (wv0 y), .int .u64 (wv3 u), .int .u64 (wv2 u), .int .u64 (wv1 u), .int .u64 (wv0 u)]] w fun v w1 => v = .bool (decide (pOk x y u)) ∧ Ext w w1 := by
 refine ct_run (n := 27) Try.func50 rfl Try.ntmps50 rfl ?_
 have E0 : Below w.heap.size w w := Below.refl _ _
 refine rk_seq ?_
 refine rk_reg ?_
 refine lw_e (oe_box (v := .agg #[.int .u64 (wv3 x), .int .u64 (wv2 x), .int .u64 (wv1 x), .int .u64 (wv0 x), .int .u64 (wv3 y), .int .u64 (wv2 y), .int .u64 (wv1 y), .int .u64 (wv0 y), .int .u64 (wv3 u), .int .u64 (wv2 u), .int .u64 (wv1 u), .int .u64 (wv0 u)]) (cs := #[.int .u64 (wv3 x), .int .u64 (wv2 x), .int .u64 (wv1 x), .int .u64 (wv0 x), .int .u64 (wv3 y), .int .u64 (wv2 y), .int .u64 (wv1 y), .int .u64 (wv0 y), .int .u64 (wv3 u), .int .u64 (wv2 u), .int .u64 (wv1 u), .int .u64 (wv0 u)]) (T rfl rfl) rfl ?_)
 intro b1 w2 n3
 have N4 : w.heap.size ≤ b1 := n3.eq ▸ E0.size
 have E5 := below_ext E0 E0.size n3.ext
 refine lw_v (.bool false) (dv_assign C) ?_
 refine lw_nil ?_
 refine rk_seq ?_
 refine rk_reg ?_
 refine lw_v (.agg #[.int .u64 (wv3 x), .int .u64 (wv2 x), .int .u64 (wv1 x), .int .u64 (wv0 x), .int .u64 (wv3 y), .int .u64 (wv2 y), .int .u64 (wv1 y), .int .u64 (wv0 y), .int .u64 (wv3 u), .int .u64 (wv2 u), .int .u64 (wv1 u), .int .u64 (wv0 u)]) (dv_loads (l := [.int .u64 (wv3 x), .int .u64 (wv2 x), .int .u64 (wv1 x), .int .u64 (wv0 x), .int .u64 (wv3 y), .int .u64 (wv2 y), .int .u64 (wv1 y), .int .u64 (wv0 y), .int .u64 (wv3 u), .int .u64 (wv2 u), .int .u64 (wv1 u), .int .u64 (wv0 u)]) agt40 sz40 (T rfl rfl) n3.blk rfl) ?_
 refine lw_e (oe_callf (vs := [.agg #[.int .u64 (wv3 x), .int .u64 (wv2 x), .int .u64 (wv1 x), .int .u64 (wv0 x), .int .u64 (wv3 y), .int .u64 (wv2 y), .int .u64 (wv1 y), .int .u64 (wv0 y), .int .u64 (wv3 u), .int .u64 (wv2 u), .int .u64 (wv1 u), .int .u64 (wv0 u)]]) co52 (ar1 (T rfl rfl)) (l3Of_ok fx_ fy_ fu_  ) ?_)
 rintro _ w21 ⟨nr6, A7, n8, c9, nr10, A11, n12, c13, nr14, A15, n16, c17, rfl, e22, h18, h19, h20⟩
 have E23 := below_ext E5 E5.size e22
 have lh18 := Num.len (by decide) h18
 have lh19 := Num.len (by decide) h19
 have lh20 := Num.len (by decide) h20
 refine lw_e (oe_alloc ze90 ?_)
 intro b24 w25 n26
 have N27 : w.heap.size ≤ b24 := n26.eq ▸ E23.size
 have H28 := (e22.blk n3.blk)
 have : b1 < b24 := n26.eq ▸ lt_of_blk H28
 have E29 := below_ext E23 E23.size n26.ext
 refine lw_e (oe_store (v := .agg #[.bool nr6, .slice A7 n8 c9, .bool nr10, .slice A11 n12 c13, .bool nr14, .slice A15 n16 c17]) (vs := [.bool nr6, .slice A7 n8 c9, .bool nr10, .slice A11 n12 c13, .bool nr14, .slice A15 n16 c17]) (l := [.bool nr6, .slice A7 n8 c9, .bool nr10, .slice A11 n12 c13, .bool nr14, .slice A15 n16 c17]) (T rfl rfl) (T rfl rfl) sz90 rfl rfl rfl n26.blk rfl ?_)
 intro w30 s31 H32
 have E33 := below_st E29 N27 s31
 refine lw_nil ?_
 refine rk_seq ?_
 refine rk_any (fun w => w.heap[b24]? = some (.cells #[.bool nr6, .slice A7 n8 c9, .bool nr10, .slice A11 n12 c13, .bool nr14, .slice A15 n16 c17] 90)) [21] mo ?_
 intro w34 d35
 have E36 := below_ext E33 E33.size d35.ext
 have H37 := (d35.ext.blk H32)
 refine aw_pure 0 (.pointer (some ⟨b24, 4, none⟩)) rfl (by kernel_rfl) .none H37 (fun _ => dv_fieldAddr (a := ⟨b24, 0, none⟩) (a' := ⟨b24, 4, none⟩) fo90_2 (T rfl rfl) rfl) ?_
 refine aw_load 1 (.agg #[.bool nr14, .slice A15 n16 c17]) rfl (by kernel_rfl) .none H37 (fun _ s => dv_loads (l := [.bool nr14, .slice A15 n16 c17]) agt88 sz88 (T rfl rfl) s rfl) ?_
 have h38 := (((h20.ext n26.ext).st s31 n26.blk (by decide)).ext d35.ext)
 refine aw_one 2 rfl (by kernel_rfl) .none (oe_callf (vs := [.agg #[.bool nr14, .slice A15 n16 c17]]) co95 (ar1 (T rfl rfl)) (l1Sign_ok h38 ) ?_)
 rintro _ w39 ⟨rfl, e40⟩
 have E41 := below_ext E36 E36.size e40
 have H42 := (e40.blk H37)
 refine ⟨.inr H42, ?_⟩
 refine aw_pure 3 (.bool (decide (0 < (sgnI u)))) rfl (by kernel_rfl) .none H42 (fun _ => dv_gtr (a := sgnI u) (b := 0) (T rfl rfl) C) ?_
 refine aw_pure 4 (.bool (decide (0 < (sgnI u)))) rfl (by kernel_rfl) .none H42 (fun _ => dv_move (T rfl rfl)) ?_
 by_cases hb43 : 0 < (sgnI u)
 · refine aw_load 5 (.agg #[.bool nr6, .slice A7 n8 c9, .bool nr10, .slice A11 n12 c13, .bool nr14, .slice A15 n16 c17]) rfl (by kernel_rfl) (.yes (d := 10) rfl rfl (congrArg Value.bool (decide_eq_true hb43))) H42 (fun _ s => dv_loads (l := [.bool nr6, .slice A7 n8 c9, .bool nr10, .slice A11 n12 c13, .bool nr14, .slice A15 n16 c17]) agt90 sz90 (T rfl rfl) s rfl) ?_
   have h44 := ((((h18.ext n26.ext).st s31 n26.blk (by decide)).ext d35.ext).ext e40)
   have h45 := ((((h19.ext n26.ext).st s31 n26.blk (by decide)).ext d35.ext).ext e40)
   have h46 := (h38.ext e40)
   refine aw_one 6 rfl (by kernel_rfl) (.yes (d := 10) rfl rfl (congrArg Value.bool (decide_eq_true hb43))) (oe_callf (vs := [.agg #[.bool nr6, .slice A7 n8 c9, .bool nr10, .slice A11 n12 c13, .bool nr14, .slice A15 n16 c17]]) co96 (ar1 (T rfl rfl)) (l3Small_ok h44 h45 h46 (by first | decide | omega) (by first | decide | omega) (by first | decide | omega) ) ?_)
   rintro _ w47 ⟨rfl, e48⟩
   have E49 := below_ext E41 E41.size e48
   have H50 := (e48.blk H42)
   refine ⟨.inr H50, ?_⟩
   refine aw_pure 7 (.bool (decide (sm3 x y u))) rfl (by kernel_rfl) .none H50 (fun _ => dv_pick_t (T rfl (congrArg Value.bool (decide_eq_true hb43))) (T rfl rfl)) ?_
   refine aw_pure 8 (.bool (decide (sm3 x y u))) rfl (by kernel_rfl) .none H50 (fun _ => dv_move (T rfl rfl)) ?_
   by_cases hb51 : sm3 x y u
   · refine aw_pure 9 (.pointer (some ⟨b24, 0, none⟩)) rfl (by kernel_rfl) (.yes (d := 14) rfl rfl (congrArg Value.bool (decide_eq_true hb51))) H50 (fun _ => dv_fieldAddr (a := ⟨b24, 0, none⟩) (a' := ⟨b24, 0, none⟩) fo90_0 (T rfl rfl) rfl) ?_
     refine aw_load 10 (.agg #[.bool nr6, .slice A7 n8 c9]) rfl (by kernel_rfl) (.yes (d := 14) rfl rfl (congrArg Value.bool (decide_eq_true hb51))) H50 (fun _ s => dv_loads (l := [.bool nr6, .slice A7 n8 c9]) agt88 sz88 (T rfl rfl) s rfl) ?_
     refine aw_pure 11 (.pointer (some ⟨b24, 2, none⟩)) rfl (by kernel_rfl) (.yes (d := 14) rfl rfl (congrArg Value.bool (decide_eq_true hb51))) H50 (fun _ => dv_fieldAddr (a := ⟨b24, 0, none⟩) (a' := ⟨b24, 2, none⟩) fo90_1 (T rfl rfl) rfl) ?_
     refine aw_load 12 (.agg #[.bool nr10, .slice A11 n12 c13]) rfl (by kernel_rfl) (.yes (d := 14) rfl rfl (congrArg Value.bool (decide_eq_true hb51))) H50 (fun _ s => dv_loads (l := [.bool nr10, .slice A11 n12 c13]) agt88 sz88 (T rfl rfl) s rfl) ?_
     refine aw_pure 14 (.pointer (some ⟨b24, 4, none⟩)) rfl (by kernel_rfl) (.yes (d := 14) rfl rfl (congrArg Value.bool (decide_eq_true hb51))) H50 (fun _ => dv_fieldAddr (a := ⟨b24, 0, none⟩) (a' := ⟨b24, 4, none⟩) fo90_2 (T rfl rfl) rfl) ?_
     refine aw_load 15 (.agg #[.bool nr14, .slice A15 n16 c17]) rfl (by kernel_rfl) (.yes (d := 14) rfl rfl (congrArg Value.bool (decide_eq_true hb51))) H50 (fun _ s => dv_loads (l := [.bool nr14, .slice A15 n16 c17]) agt88 sz88 (T rfl rfl) s rfl) ?_
     have h52 := (h44.ext e48)
     have h53 := (h45.ext e48)
     refine aw_one 13 rfl (by kernel_rfl) (.yes (d := 14) rfl rfl (congrArg Value.bool (decide_eq_true hb51))) (oe_callf (vs := [.agg #[.bool nr6, .slice A7 n8 c9], .agg #[.bool nr10, .slice A11 n12 c13]]) co98 (ar2 (T rfl rfl) (T rfl rfl)) (l1Gcd_ok h52 h53 (by first | decide | omega) (by first | decide | omega)) ?_)
     rintro _ w59 ⟨nr54, A55, n56, c57, rfl, e60, h58⟩
     have E61 := below_ext E49 E49.size e60
     have lh58 := Num.len (by decide) h58
     have H62 := (e60.blk H50)
     refine ⟨.inr H62, ?_⟩
     have h63 := ((h46.ext e48).ext e60)
     refine aw_one 16 rfl (by kernel_rfl) (.yes (d := 14) rfl rfl (congrArg Value.bool (decide_eq_true hb51))) (oe_callf (vs := [.agg #[.bool nr54, .slice A55 n56 c57], .agg #[.bool nr14, .slice A15 n16 c17]]) co98 (ar2 (T rfl rfl) (T rfl rfl)) (l1Gcd_ok h58 h63 (by first | decide | omega) (by first | decide | omega)) ?_)
     rintro _ w69 ⟨nr64, A65, n66, c67, rfl, e70, h68⟩
     have E71 := below_ext E61 E61.size e70
     have lh68 := Num.len (by decide) h68
     have H72 := (e70.blk H62)
     refine ⟨.inr H72, ?_⟩
     refine aw_one 17 rfl (by kernel_rfl) (.yes (d := 14) rfl rfl (congrArg Value.bool (decide_eq_true hb51))) (oe_callf (vs := [.int .i64 1]) co99 (ar1 C) (l1Int_ok  (by omega)) ?_)
     rintro _ w78 ⟨nr73, A74, n75, c76, rfl, e79, h77⟩
     have E80 := below_ext E71 E71.size e79
     have lh77 := Num.len (by decide) h77
     have H81 := (e79.blk H72)
     refine ⟨.inr H81, ?_⟩
     have h82 := (h68.ext e79)
     refine aw_one 18 rfl (by kernel_rfl) (.yes (d := 14) rfl rfl (congrArg Value.bool (decide_eq_true hb51))) (oe_callf (vs := [.agg #[.bool nr64, .slice A65 n66 c67], .agg #[.bool nr73, .slice A74 n75 c76]]) co97 (ar2 (T rfl rfl) (T rfl rfl)) (l1Cmp_ok h82 h77 (by first | decide | omega) (by first | decide | omega)) ?_)
     rintro _ w83 ⟨rfl, e84⟩
     have E85 := below_ext E80 E80.size e84
     have H86 := (e84.blk H81)
     refine ⟨.inr H86, ?_⟩
     refine aw_pure 19 (.bool (decide ((sgnI ((gI (gI x y) u) - 1)) = 0))) rfl (by kernel_rfl) (.yes (d := 14) rfl rfl (congrArg Value.bool (decide_eq_true hb51))) H86 (fun _ => dv_eql (a := sgnI ((gI (gI x y) u) - 1)) (b := 0) (T rfl rfl) C) ?_
     refine aw_pure 20 (.bool (decide ((sgnI ((gI (gI x y) u) - 1)) = 0))) rfl (by kernel_rfl) .none H86 (fun _ => dv_pick_t (T rfl (congrArg Value.bool (decide_eq_true hb51))) (T rfl rfl)) ?_
     refine aw_last 21 (.bool (decide ((sgnI ((gI (gI x y) u) - 1)) = 0))) rfl (by kernel_rfl) .none (fun _ => dv_assign (T rfl rfl)) ?_
     refine aw_done (by kernel_rfl) ?_
     refine rk_ret Try.func50 (v := .bool (decide ((sgnI ((gI (gI x y) u) - 1)) = 0))) (res1 Try.results50 (rv_tmp rfl rfl)) ⟨_, rfl, ?_⟩
     have h1 : sm3 x y u := by first | assumption | exact sm3_iff.2 (mx3.1 ‹_›)
     have h2 : 0 < u := sgnI_gt.1 (by assumption)
     have h3 := @sgnI_zero (gI3 x y u - 1)
     exact ⟨(vb ⟨fun hh => ⟨h2, h1, by have := h3.1 hh; omega⟩, fun hh => h3.2 (by have := hh.2.2; omega)⟩), E85⟩
   · refine aw_no 9 rfl (by kernel_rfl) (d := 14) rfl rfl (congrArg Value.bool (decide_eq_false hb51)) H50 ?_
     refine aw_no 10 rfl (by kernel_rfl) (d := 14) rfl rfl (congrArg Value.bool (decide_eq_false hb51)) H50 ?_
     refine aw_no 11 rfl (by kernel_rfl) (d := 14) rfl rfl (congrArg Value.bool (decide_eq_false hb51)) H50 ?_
     refine aw_no 12 rfl (by kernel_rfl) (d := 14) rfl rfl (congrArg Value.bool (decide_eq_false hb51)) H50 ?_
     refine aw_no 13 rfl (by kernel_rfl) (d := 14) rfl rfl (congrArg Value.bool (decide_eq_false hb51)) H50 ?_
     refine aw_no 14 rfl (by kernel_rfl) (d := 14) rfl rfl (congrArg Value.bool (decide_eq_false hb51)) H50 ?_
     refine aw_no 15 rfl (by kernel_rfl) (d := 14) rfl rfl (congrArg Value.bool (decide_eq_false hb51)) H50 ?_
     refine aw_no 16 rfl (by kernel_rfl) (d := 14) rfl rfl (congrArg Value.bool (decide_eq_false hb51)) H50 ?_
     refine aw_no 17 rfl (by kernel_rfl) (d := 14) rfl rfl (congrArg Value.bool (decide_eq_false hb51)) H50 ?_
     refine aw_no 18 rfl (by kernel_rfl) (d := 14) rfl rfl (congrArg Value.bool (decide_eq_false hb51)) H50 ?_
     refine aw_no 19 rfl (by kernel_rfl) (d := 14) rfl rfl (congrArg Value.bool (decide_eq_false hb51)) H50 ?_
     refine aw_pure 20 (.bool false) rfl (by kernel_rfl) .none H50 (fun _ => dv_pick_f (T rfl (congrArg Value.bool (decide_eq_false hb51))) C) ?_
     refine aw_last 21 (.bool false) rfl (by kernel_rfl) .none (fun _ => dv_assign (T rfl rfl)) ?_
     refine aw_done (by kernel_rfl) ?_
     refine rk_ret Try.func50 (v := .bool false) (res1 Try.results50 (rv_tmp rfl rfl)) ⟨_, rfl, ?_⟩
     exact ⟨(vf (by intro hh; have h1 := sgnI_gt.2 hh.1; have h2 := hh.2.1; first | (exact absurd h2 (by assumption)) | (exact absurd (mx3.2 (sm3_iff.1 h2)) (by assumption)) | contradiction | omega)), E49⟩
 · refine aw_no 5 rfl (by kernel_rfl) (d := 10) rfl rfl (congrArg Value.bool (decide_eq_false hb43)) H42 ?_
   refine aw_no 6 rfl (by kernel_rfl) (d := 10) rfl rfl (congrArg Value.bool (decide_eq_false hb43)) H42 ?_
   refine aw_pure 7 (.bool false) rfl (by kernel_rfl) .none H42 (fun _ => dv_pick_f (T rfl (congrArg Value.bool (decide_eq_false hb43))) C) ?_
   refine aw_pure 8 (.bool false) rfl (by kernel_rfl) .none H42 (fun _ => dv_move (T rfl rfl)) ?_
   refine aw_no 9 rfl (by kernel_rfl) (d := 14) rfl rfl (rfl) H42 ?_
   refine aw_no 10 rfl (by kernel_rfl) (d := 14) rfl rfl (rfl) H42 ?_
   refine aw_no 11 rfl (by kernel_rfl) (d := 14) rfl rfl (rfl) H42 ?_
   refine aw_no 12 rfl (by kernel_rfl) (d := 14) rfl rfl (rfl) H42 ?_
   refine aw_no 13 rfl (by kernel_rfl) (d := 14) rfl rfl (rfl) H42 ?_
   refine aw_no 14 rfl (by kernel_rfl) (d := 14) rfl rfl (rfl) H42 ?_
   refine aw_no 15 rfl (by kernel_rfl) (d := 14) rfl rfl (rfl) H42 ?_
   refine aw_no 16 rfl (by kernel_rfl) (d := 14) rfl rfl (rfl) H42 ?_
   refine aw_no 17 rfl (by kernel_rfl) (d := 14) rfl rfl (rfl) H42 ?_
   refine aw_no 18 rfl (by kernel_rfl) (d := 14) rfl rfl (rfl) H42 ?_
   refine aw_no 19 rfl (by kernel_rfl) (d := 14) rfl rfl (rfl) H42 ?_
   refine aw_pure 20 (.bool false) rfl (by kernel_rfl) .none H42 (fun _ => dv_pick_f (T rfl rfl) C) ?_
   refine aw_last 21 (.bool false) rfl (by kernel_rfl) .none (fun _ => dv_assign (T rfl rfl)) ?_
   refine aw_done (by kernel_rfl) ?_
   refine rk_ret Try.func50 (v := .bool false) (res1 Try.results50 (rv_tmp rfl rfl)) ⟨_, rfl, ?_⟩
   exact ⟨(vf (by intro hh; have h1 := sgnI_gt.2 hh.1; have h2 := hh.2.1; first | (exact absurd h2 (by assumption)) | (exact absurd (mx3.2 (sm3_iff.1 h2)) (by assumption)) | contradiction | omega)), E41⟩
set_option maxHeartbeats 1000000 in
theorem iPointOk_ok {w : World} {x y u : Int} (fx_ : fits x) (fy_ : fits y) (fu_ : fits u)  : Ct Try.prog 55 [.agg #[.int .u64 (wv3 x), .int .u64 (wv2 x), .int .u64 (wv1 x), .int .u64 (wv0 x), .int .u64 (wv3 y), .int .u64 (wv2 y), .int .u64 (wv1 y), .int .u64 (wv0 y), .int .u64 (wv3 u), .int .u64 (wv2 u), .int .u64 (wv1 u), .int .u64 (wv0 u)]] w fun v w1 => v = .bool (decide (pOk x y u)) ∧ Ext w w1 := by
 refine ct_run (n := 36) Try.func55 rfl Try.ntmps55 rfl ?_
 have E0 : Below w.heap.size w w := Below.refl _ _
 refine rk_seq ?_
 refine rk_reg ?_
 refine lw_e (oe_box (v := .agg #[.int .u64 (wv3 x), .int .u64 (wv2 x), .int .u64 (wv1 x), .int .u64 (wv0 x), .int .u64 (wv3 y), .int .u64 (wv2 y), .int .u64 (wv1 y), .int .u64 (wv0 y), .int .u64 (wv3 u), .int .u64 (wv2 u), .int .u64 (wv1 u), .int .u64 (wv0 u)]) (cs := #[.int .u64 (wv3 x), .int .u64 (wv2 x), .int .u64 (wv1 x), .int .u64 (wv0 x), .int .u64 (wv3 y), .int .u64 (wv2 y), .int .u64 (wv1 y), .int .u64 (wv0 y), .int .u64 (wv3 u), .int .u64 (wv2 u), .int .u64 (wv1 u), .int .u64 (wv0 u)]) (T rfl rfl) rfl ?_)
 intro b1 w2 n3
 have N4 : w.heap.size ≤ b1 := n3.eq ▸ E0.size
 have E5 := below_ext E0 E0.size n3.ext
 refine lw_v (.bool false) (dv_assign C) ?_
 refine lw_nil ?_
 refine rk_seq ?_
 refine rk_reg ?_
 refine lw_v (.agg #[.int .u64 (wv3 x), .int .u64 (wv2 x), .int .u64 (wv1 x), .int .u64 (wv0 x), .int .u64 (wv3 y), .int .u64 (wv2 y), .int .u64 (wv1 y), .int .u64 (wv0 y), .int .u64 (wv3 u), .int .u64 (wv2 u), .int .u64 (wv1 u), .int .u64 (wv0 u)]) (dv_loads (l := [.int .u64 (wv3 x), .int .u64 (wv2 x), .int .u64 (wv1 x), .int .u64 (wv0 x), .int .u64 (wv3 y), .int .u64 (wv2 y), .int .u64 (wv1 y), .int .u64 (wv0 y), .int .u64 (wv3 u), .int .u64 (wv2 u), .int .u64 (wv1 u), .int .u64 (wv0 u)]) agt40 sz40 (T rfl rfl) n3.blk rfl) ?_
 refine lw_e (oe_callf (vs := [.agg #[.int .u64 (wv3 x), .int .u64 (wv2 x), .int .u64 (wv1 x), .int .u64 (wv0 x), .int .u64 (wv3 y), .int .u64 (wv2 y), .int .u64 (wv1 y), .int .u64 (wv0 y), .int .u64 (wv3 u), .int .u64 (wv2 u), .int .u64 (wv1 u), .int .u64 (wv0 u)]]) co68 (ar1 (T rfl rfl)) (spot_ok fx_ fy_ fu_  ) ?_)
 rintro _ w21 ⟨nr6, A7, n8, c9, nr10, A11, n12, c13, nr14, A15, n16, c17, rfl, e22, h18, h19, h20⟩
 have E23 := below_ext E5 E5.size e22
 have lh18 := Num.len (by decide) h18
 have lh19 := Num.len (by decide) h19
 have lh20 := Num.len (by decide) h20
 refine lw_e (oe_alloc ze109 ?_)
 intro b24 w25 n26
 have N27 : w.heap.size ≤ b24 := n26.eq ▸ E23.size
 have H28 := (e22.blk n3.blk)
 have : b1 < b24 := n26.eq ▸ lt_of_blk H28
 have E29 := below_ext E23 E23.size n26.ext
 refine lw_e (oe_store (v := .agg #[.bool nr6, .slice A7 n8 c9, .bool nr10, .slice A11 n12 c13, .bool nr14, .slice A15 n16 c17]) (vs := [.bool nr6, .slice A7 n8 c9, .bool nr10, .slice A11 n12 c13, .bool nr14, .slice A15 n16 c17]) (l := [.bool nr6, .slice A7 n8 c9, .bool nr10, .slice A11 n12 c13, .bool nr14, .slice A15 n16 c17]) (T rfl rfl) (T rfl rfl) sz109 rfl rfl rfl n26.blk rfl ?_)
 intro w30 s31 H32
 have E33 := below_st E29 N27 s31
 refine lw_nil ?_
 refine rk_seq ?_
 refine rk_any (fun w => w.heap[b24]? = some (.cells #[.bool nr6, .slice A7 n8 c9, .bool nr10, .slice A11 n12 c13, .bool nr14, .slice A15 n16 c17] 109)) [30] mo ?_
 intro w34 d35
 have E36 := below_ext E33 E33.size d35.ext
 have H37 := (d35.ext.blk H32)
 refine aw_pure 0 (.pointer (some ⟨b24, 4, none⟩)) rfl (by kernel_rfl) .none H37 (fun _ => dv_fieldAddr (a := ⟨b24, 0, none⟩) (a' := ⟨b24, 4, none⟩) fo109_2 (T rfl rfl) rfl) ?_
 refine aw_load 1 (.agg #[.bool nr14, .slice A15 n16 c17]) rfl (by kernel_rfl) .none H37 (fun _ s => dv_loads (l := [.bool nr14, .slice A15 n16 c17]) agt107 sz107 (T rfl rfl) s rfl) ?_
 have h38 := (((h20.ext n26.ext).st s31 n26.blk (by decide)).ext d35.ext)
 refine aw_one 2 rfl (by kernel_rfl) .none (oe_callf (vs := [.agg #[.bool nr14, .slice A15 n16 c17]]) co103 (ar1 (T rfl rfl)) (nsign_ok h38 ) ?_)
 rintro _ w39 ⟨rfl, e40⟩
 have E41 := below_ext E36 E36.size e40
 have H42 := (e40.blk H37)
 refine ⟨.inr H42, ?_⟩
 refine aw_pure 3 (.bool (decide (0 < (sgnI u)))) rfl (by kernel_rfl) .none H42 (fun _ => dv_gtr (a := sgnI u) (b := 0) (T rfl rfl) C) ?_
 refine aw_pure 4 (.bool (decide (0 < (sgnI u)))) rfl (by kernel_rfl) .none H42 (fun _ => dv_move (T rfl rfl)) ?_
 by_cases hb43 : 0 < (sgnI u)
 · refine aw_pure 5 (.pointer (some ⟨b24, 0, none⟩)) rfl (by kernel_rfl) (.yes (d := 10) rfl rfl (congrArg Value.bool (decide_eq_true hb43))) H42 (fun _ => dv_fieldAddr (a := ⟨b24, 0, none⟩) (a' := ⟨b24, 0, none⟩) fo109_0 (T rfl rfl) rfl) ?_
   refine aw_load 6 (.agg #[.bool nr6, .slice A7 n8 c9]) rfl (by kernel_rfl) (.yes (d := 10) rfl rfl (congrArg Value.bool (decide_eq_true hb43))) H42 (fun _ s => dv_loads (l := [.bool nr6, .slice A7 n8 c9]) agt107 sz107 (T rfl rfl) s rfl) ?_
   refine aw_pure 8 (.pointer (some ⟨b24, 2, none⟩)) rfl (by kernel_rfl) (.yes (d := 10) rfl rfl (congrArg Value.bool (decide_eq_true hb43))) H42 (fun _ => dv_fieldAddr (a := ⟨b24, 0, none⟩) (a' := ⟨b24, 2, none⟩) fo109_1 (T rfl rfl) rfl) ?_
   refine aw_load 9 (.agg #[.bool nr10, .slice A11 n12 c13]) rfl (by kernel_rfl) (.yes (d := 10) rfl rfl (congrArg Value.bool (decide_eq_true hb43))) H42 (fun _ s => dv_loads (l := [.bool nr10, .slice A11 n12 c13]) agt107 sz107 (T rfl rfl) s rfl) ?_
   refine aw_pure 11 (.pointer (some ⟨b24, 4, none⟩)) rfl (by kernel_rfl) (.yes (d := 10) rfl rfl (congrArg Value.bool (decide_eq_true hb43))) H42 (fun _ => dv_fieldAddr (a := ⟨b24, 0, none⟩) (a' := ⟨b24, 4, none⟩) fo109_2 (T rfl rfl) rfl) ?_
   refine aw_load 12 (.agg #[.bool nr14, .slice A15 n16 c17]) rfl (by kernel_rfl) (.yes (d := 10) rfl rfl (congrArg Value.bool (decide_eq_true hb43))) H42 (fun _ s => dv_loads (l := [.bool nr14, .slice A15 n16 c17]) agt107 sz107 (T rfl rfl) s rfl) ?_
   have h44 := ((((h18.ext n26.ext).st s31 n26.blk (by decide)).ext d35.ext).ext e40)
   refine aw_one 7 rfl (by kernel_rfl) (.yes (d := 10) rfl rfl (congrArg Value.bool (decide_eq_true hb43))) (oe_callf (vs := [.agg #[.bool nr6, .slice A7 n8 c9]]) co104 (ar1 (T rfl rfl)) (nsize_num h44 (by first | omega | (simp; done) | (simp; omega))) ?_)
   rintro _ w45 ⟨rfl, e46⟩
   have E47 := below_ext E41 E41.size e46
   have H48 := (e46.blk H42)
   refine ⟨.inr H48, ?_⟩
   have h49 := (((((h19.ext n26.ext).st s31 n26.blk (by decide)).ext d35.ext).ext e40).ext e46)
   refine aw_one 10 rfl (by kernel_rfl) (.yes (d := 10) rfl rfl (congrArg Value.bool (decide_eq_true hb43))) (oe_callf (vs := [.agg #[.bool nr10, .slice A11 n12 c13]]) co104 (ar1 (T rfl rfl)) (nsize_num h49 (by first | omega | (simp; done) | (simp; omega))) ?_)
   rintro _ w50 ⟨rfl, e51⟩
   have E52 := below_ext E47 E47.size e51
   have H53 := (e51.blk H48)
   refine ⟨.inr H53, ?_⟩
   have h54 := (((h38.ext e40).ext e46).ext e51)
   refine aw_one 13 rfl (by kernel_rfl) (.yes (d := 10) rfl rfl (congrArg Value.bool (decide_eq_true hb43))) (oe_callf (vs := [.agg #[.bool nr14, .slice A15 n16 c17]]) co104 (ar1 (T rfl rfl)) (nsize_num h54 (by first | omega | (simp; done) | (simp; omega))) ?_)
   rintro _ w55 ⟨rfl, e56⟩
   have E57 := below_ext E52 E52.size e56
   have H58 := (e56.blk H53)
   refine ⟨.inr H58, ?_⟩
   refine aw_pure 14 (.int .i64 (mx (mx ((nbits (x).natAbs : Int)) ((nbits (y).natAbs : Int))) ((nbits (u).natAbs : Int)))) rfl (by kernel_rfl) (.yes (d := 10) rfl rfl (congrArg Value.bool (decide_eq_true hb43))) H58 (fun _ => dv_max3 (a := (nbits (x).natAbs : Int)) (b := (nbits (y).natAbs : Int)) (c := (nbits (u).natAbs : Int)) (T rfl rfl) (T rfl rfl) (T rfl rfl)) ?_
   refine aw_pure 15 (.bool (decide ((mx (mx ((nbits (x).natAbs : Int)) ((nbits (y).natAbs : Int))) ((nbits (u).natAbs : Int))) ≤ 80))) rfl (by kernel_rfl) (.yes (d := 10) rfl rfl (congrArg Value.bool (decide_eq_true hb43))) H58 (fun _ => dv_leq (a := mx (mx ((nbits (x).natAbs : Int)) ((nbits (y).natAbs : Int))) ((nbits (u).natAbs : Int))) (b := 80) (T rfl rfl) C) ?_
   refine aw_pure 16 (.bool (decide ((mx (mx ((nbits (x).natAbs : Int)) ((nbits (y).natAbs : Int))) ((nbits (u).natAbs : Int))) ≤ 80))) rfl (by kernel_rfl) .none H58 (fun _ => dv_pick_t (T rfl (congrArg Value.bool (decide_eq_true hb43))) (T rfl rfl)) ?_
   refine aw_pure 17 (.bool (decide ((mx (mx ((nbits (x).natAbs : Int)) ((nbits (y).natAbs : Int))) ((nbits (u).natAbs : Int))) ≤ 80))) rfl (by kernel_rfl) .none H58 (fun _ => dv_move (T rfl rfl)) ?_
   by_cases hb59 : (mx (mx ((nbits (x).natAbs : Int)) ((nbits (y).natAbs : Int))) ((nbits (u).natAbs : Int))) ≤ 80
   · refine aw_pure 18 (.pointer (some ⟨b24, 0, none⟩)) rfl (by kernel_rfl) (.yes (d := 23) rfl rfl (congrArg Value.bool (decide_eq_true hb59))) H58 (fun _ => dv_fieldAddr (a := ⟨b24, 0, none⟩) (a' := ⟨b24, 0, none⟩) fo109_0 (T rfl rfl) rfl) ?_
     refine aw_load 19 (.agg #[.bool nr6, .slice A7 n8 c9]) rfl (by kernel_rfl) (.yes (d := 23) rfl rfl (congrArg Value.bool (decide_eq_true hb59))) H58 (fun _ s => dv_loads (l := [.bool nr6, .slice A7 n8 c9]) agt107 sz107 (T rfl rfl) s rfl) ?_
     refine aw_pure 20 (.pointer (some ⟨b24, 2, none⟩)) rfl (by kernel_rfl) (.yes (d := 23) rfl rfl (congrArg Value.bool (decide_eq_true hb59))) H58 (fun _ => dv_fieldAddr (a := ⟨b24, 0, none⟩) (a' := ⟨b24, 2, none⟩) fo109_1 (T rfl rfl) rfl) ?_
     refine aw_load 21 (.agg #[.bool nr10, .slice A11 n12 c13]) rfl (by kernel_rfl) (.yes (d := 23) rfl rfl (congrArg Value.bool (decide_eq_true hb59))) H58 (fun _ s => dv_loads (l := [.bool nr10, .slice A11 n12 c13]) agt107 sz107 (T rfl rfl) s rfl) ?_
     refine aw_pure 22 (.pointer (some ⟨b24, 4, none⟩)) rfl (by kernel_rfl) (.yes (d := 23) rfl rfl (congrArg Value.bool (decide_eq_true hb59))) H58 (fun _ => dv_fieldAddr (a := ⟨b24, 0, none⟩) (a' := ⟨b24, 4, none⟩) fo109_2 (T rfl rfl) rfl) ?_
     refine aw_load 23 (.agg #[.bool nr14, .slice A15 n16 c17]) rfl (by kernel_rfl) (.yes (d := 23) rfl rfl (congrArg Value.bool (decide_eq_true hb59))) H58 (fun _ s => dv_loads (l := [.bool nr14, .slice A15 n16 c17]) agt107 sz107 (T rfl rfl) s rfl) ?_
     refine aw_one 24 rfl (by kernel_rfl) (.yes (d := 23) rfl rfl (congrArg Value.bool (decide_eq_true hb59))) (oe_buildSlice (pv := [(0, .agg #[.bool nr6, .slice A7 n8 c9]), (1, .agg #[.bool nr10, .slice A11 n12 c13]), (2, .agg #[.bool nr14, .slice A15 n16 c17])]) (init := [.bool false, .slice none 0 0, .bool false, .slice none 0 0, .bool false, .slice none 0 0]) (l := [.bool nr6, .slice A7 n8 c9, .bool nr10, .slice A11 n12 c13, .bool nr14, .slice A15 n16 c17]) us172 sz107 rfl rfl zc107 (by kernel_rfl) ⟨rfl, (T rfl rfl), ⟨rfl, (T rfl rfl), ⟨rfl, (T rfl rfl), trivial⟩⟩⟩ rfl ?_)
     intro b60 w61 n62
     have N63 : w.heap.size ≤ b60 := n62.eq ▸ E57.size
     have : b24 < b60 := n62.eq ▸ lt_of_blk H58
     have E64 := below_ext E57 E57.size n62.ext
     have H65 := (n62.ext.blk H58)
     refine ⟨.inr H65, ?_⟩
     have h66 := ((((h44.ext e46).ext e51).ext e56).ext n62.ext)
     have h67 := (((h49.ext e51).ext e56).ext n62.ext)
     have h68 := ((h54.ext e56).ext n62.ext)
     refine aw_one 25 rfl (by kernel_rfl) (.yes (d := 23) rfl rfl (congrArg Value.bool (decide_eq_true hb59))) (oe_callf (vs := [.slice (some ⟨b60, 0, none⟩) 3 3]) co105 (ar1 (T rfl rfl)) (gcd3_ok h66 h67 h68 (by first | decide | omega) (by first | decide | omega) (by first | decide | omega) n62.blk) ?_)
     rintro _ w74 ⟨nr69, A70, n71, c72, rfl, e75, h73⟩
     have E76 := below_ext E64 E64.size e75
     have lh73 := Num.len (by decide) h73
     have H77 := (e75.blk H65)
     refine ⟨.inr H77, ?_⟩
     refine aw_one 26 rfl (by kernel_rfl) (.yes (d := 23) rfl rfl (congrArg Value.bool (decide_eq_true hb59))) (oe_callf (vs := [.int .i64 1]) co70 (ar1 C) (whole_ok  (by omega)) ?_)
     rintro _ w83 ⟨nr78, A79, n80, c81, rfl, e84, h82⟩
     have E85 := below_ext E76 E76.size e84
     have lh82 := Num.len (by decide) h82
     have H86 := (e84.blk H77)
     refine ⟨.inr H86, ?_⟩
     have h87 := (h73.ext e84)
     refine aw_one 27 rfl (by kernel_rfl) (.yes (d := 23) rfl rfl (congrArg Value.bool (decide_eq_true hb59))) (oe_callf (vs := [.agg #[.bool nr69, .slice A70 n71 c72], .agg #[.bool nr78, .slice A79 n80 c81]]) co69 (ar2 (T rfl rfl) (T rfl rfl)) (ncmp_ok h87 h82 (by first | decide | omega) (by first | decide | omega)) ?_)
     rintro _ w88 ⟨rfl, e89⟩
     have E90 := below_ext E85 E85.size e89
     have H91 := (e89.blk H86)
     refine ⟨.inr H91, ?_⟩
     refine aw_pure 28 (.bool (decide ((sgnI ((gI3 x y u) - 1)) = 0))) rfl (by kernel_rfl) (.yes (d := 23) rfl rfl (congrArg Value.bool (decide_eq_true hb59))) H91 (fun _ => dv_eql (a := sgnI ((gI3 x y u) - 1)) (b := 0) (T rfl rfl) C) ?_
     refine aw_pure 29 (.bool (decide ((sgnI ((gI3 x y u) - 1)) = 0))) rfl (by kernel_rfl) .none H91 (fun _ => dv_pick_t (T rfl (congrArg Value.bool (decide_eq_true hb59))) (T rfl rfl)) ?_
     refine aw_last 30 (.bool (decide ((sgnI ((gI3 x y u) - 1)) = 0))) rfl (by kernel_rfl) .none (fun _ => dv_assign (T rfl rfl)) ?_
     refine aw_done (by kernel_rfl) ?_
     refine rk_ret Try.func55 (v := .bool (decide ((sgnI ((gI3 x y u) - 1)) = 0))) (res1 Try.results55 (rv_tmp rfl rfl)) ⟨_, rfl, ?_⟩
     have h1 : sm3 x y u := by first | assumption | exact sm3_iff.2 (mx3.1 ‹_›)
     have h2 : 0 < u := sgnI_gt.1 (by assumption)
     have h3 := @sgnI_zero (gI3 x y u - 1)
     exact ⟨(vb ⟨fun hh => ⟨h2, h1, by have := h3.1 hh; omega⟩, fun hh => h3.2 (by have := hh.2.2; omega)⟩), E90⟩
   · refine aw_no 18 rfl (by kernel_rfl) (d := 23) rfl rfl (congrArg Value.bool (decide_eq_false hb59)) H58 ?_
     refine aw_no 19 rfl (by kernel_rfl) (d := 23) rfl rfl (congrArg Value.bool (decide_eq_false hb59)) H58 ?_
     refine aw_no 20 rfl (by kernel_rfl) (d := 23) rfl rfl (congrArg Value.bool (decide_eq_false hb59)) H58 ?_
     refine aw_no 21 rfl (by kernel_rfl) (d := 23) rfl rfl (congrArg Value.bool (decide_eq_false hb59)) H58 ?_
     refine aw_no 22 rfl (by kernel_rfl) (d := 23) rfl rfl (congrArg Value.bool (decide_eq_false hb59)) H58 ?_
     refine aw_no 23 rfl (by kernel_rfl) (d := 23) rfl rfl (congrArg Value.bool (decide_eq_false hb59)) H58 ?_
     refine aw_no 24 rfl (by kernel_rfl) (d := 23) rfl rfl (congrArg Value.bool (decide_eq_false hb59)) H58 ?_
     refine aw_no 25 rfl (by kernel_rfl) (d := 23) rfl rfl (congrArg Value.bool (decide_eq_false hb59)) H58 ?_
     refine aw_no 26 rfl (by kernel_rfl) (d := 23) rfl rfl (congrArg Value.bool (decide_eq_false hb59)) H58 ?_
     refine aw_no 27 rfl (by kernel_rfl) (d := 23) rfl rfl (congrArg Value.bool (decide_eq_false hb59)) H58 ?_
     refine aw_no 28 rfl (by kernel_rfl) (d := 23) rfl rfl (congrArg Value.bool (decide_eq_false hb59)) H58 ?_
     refine aw_pure 29 (.bool false) rfl (by kernel_rfl) .none H58 (fun _ => dv_pick_f (T rfl (congrArg Value.bool (decide_eq_false hb59))) C) ?_
     refine aw_last 30 (.bool false) rfl (by kernel_rfl) .none (fun _ => dv_assign (T rfl rfl)) ?_
     refine aw_done (by kernel_rfl) ?_
     refine rk_ret Try.func55 (v := .bool false) (res1 Try.results55 (rv_tmp rfl rfl)) ⟨_, rfl, ?_⟩
     exact ⟨(vf (by intro hh; have h1 := sgnI_gt.2 hh.1; have h2 := hh.2.1; first | (exact absurd h2 (by assumption)) | (exact absurd (mx3.2 (sm3_iff.1 h2)) (by assumption)) | contradiction | omega)), E57⟩
 · refine aw_no 5 rfl (by kernel_rfl) (d := 10) rfl rfl (congrArg Value.bool (decide_eq_false hb43)) H42 ?_
   refine aw_no 6 rfl (by kernel_rfl) (d := 10) rfl rfl (congrArg Value.bool (decide_eq_false hb43)) H42 ?_
   refine aw_no 7 rfl (by kernel_rfl) (d := 10) rfl rfl (congrArg Value.bool (decide_eq_false hb43)) H42 ?_
   refine aw_no 8 rfl (by kernel_rfl) (d := 10) rfl rfl (congrArg Value.bool (decide_eq_false hb43)) H42 ?_
   refine aw_no 9 rfl (by kernel_rfl) (d := 10) rfl rfl (congrArg Value.bool (decide_eq_false hb43)) H42 ?_
   refine aw_no 10 rfl (by kernel_rfl) (d := 10) rfl rfl (congrArg Value.bool (decide_eq_false hb43)) H42 ?_
   refine aw_no 11 rfl (by kernel_rfl) (d := 10) rfl rfl (congrArg Value.bool (decide_eq_false hb43)) H42 ?_
   refine aw_no 12 rfl (by kernel_rfl) (d := 10) rfl rfl (congrArg Value.bool (decide_eq_false hb43)) H42 ?_
   refine aw_no 13 rfl (by kernel_rfl) (d := 10) rfl rfl (congrArg Value.bool (decide_eq_false hb43)) H42 ?_
   refine aw_no 14 rfl (by kernel_rfl) (d := 10) rfl rfl (congrArg Value.bool (decide_eq_false hb43)) H42 ?_
   refine aw_no 15 rfl (by kernel_rfl) (d := 10) rfl rfl (congrArg Value.bool (decide_eq_false hb43)) H42 ?_
   refine aw_pure 16 (.bool false) rfl (by kernel_rfl) .none H42 (fun _ => dv_pick_f (T rfl (congrArg Value.bool (decide_eq_false hb43))) C) ?_
   refine aw_pure 17 (.bool false) rfl (by kernel_rfl) .none H42 (fun _ => dv_move (T rfl rfl)) ?_
   refine aw_no 18 rfl (by kernel_rfl) (d := 23) rfl rfl (rfl) H42 ?_
   refine aw_no 19 rfl (by kernel_rfl) (d := 23) rfl rfl (rfl) H42 ?_
   refine aw_no 20 rfl (by kernel_rfl) (d := 23) rfl rfl (rfl) H42 ?_
   refine aw_no 21 rfl (by kernel_rfl) (d := 23) rfl rfl (rfl) H42 ?_
   refine aw_no 22 rfl (by kernel_rfl) (d := 23) rfl rfl (rfl) H42 ?_
   refine aw_no 23 rfl (by kernel_rfl) (d := 23) rfl rfl (rfl) H42 ?_
   refine aw_no 24 rfl (by kernel_rfl) (d := 23) rfl rfl (rfl) H42 ?_
   refine aw_no 25 rfl (by kernel_rfl) (d := 23) rfl rfl (rfl) H42 ?_
   refine aw_no 26 rfl (by kernel_rfl) (d := 23) rfl rfl (rfl) H42 ?_
   refine aw_no 27 rfl (by kernel_rfl) (d := 23) rfl rfl (rfl) H42 ?_
   refine aw_no 28 rfl (by kernel_rfl) (d := 23) rfl rfl (rfl) H42 ?_
   refine aw_pure 29 (.bool false) rfl (by kernel_rfl) .none H42 (fun _ => dv_pick_f (T rfl rfl) C) ?_
   refine aw_last 30 (.bool false) rfl (by kernel_rfl) .none (fun _ => dv_assign (T rfl rfl)) ?_
   refine aw_done (by kernel_rfl) ?_
   refine rk_ret Try.func55 (v := .bool false) (res1 Try.results55 (rv_tmp rfl rfl)) ⟨_, rfl, ?_⟩
   exact ⟨(vf (by intro hh; have h1 := sgnI_gt.2 hh.1; have h2 := hh.2.1; first | (exact absurd h2 (by assumption)) | (exact absurd (mx3.2 (sm3_iff.1 h2)) (by assumption)) | contradiction | omega)), E41⟩
set_option maxHeartbeats 1000000 in
theorem l3CmpX_ok {w : World}  {na : Bool} {Aa : Option Addr} {la ca : Nat} {x : Int} {sx : Nat} (ha : Num 32 168 .u32 w na Aa la ca x sx) {nb : Bool} {Ab : Option Addr} {lb cb : Nat} {y : Int} {sy : Nat} (hb : Num 32 168 .u32 w nb Ab lb cb y sy) {nm : Bool} {Am : Option Addr} {lm cm : Nat} {u : Int} {su : Nat} (hm : Num 32 168 .u32 w nm Am lm cm u su) {ne : Bool} {Ae : Option Addr} {le ce : Nat} {p : Int} {sp : Nat} (he : Num 32 168 .u32 w ne Ae le ce p sp) {nf : Bool} {Af : Option Addr} {lf cf : Nat} {q : Int} {sq : Nat} (hf : Num 32 168 .u32 w nf Af lf cf q sq) {ng : Bool} {Ag : Option Addr} {lg cg : Nat} {r : Int} {sr : Nat} (hg : Num 32 168 .u32 w ng Ag lg cg r sr) (hbsx : sx ≤ 100000) (hbsy : sy ≤ 100000) (hbsu : su ≤ 100000) (hbsp : sp ≤ 100000) (hbsq : sq ≤ 100000) (hbsr : sr ≤ 100000)  : Ct Try.prog 62 [.agg #[.bool na, .slice Aa la ca, .bool nb, .slice Ab lb cb, .bool nm, .slice Am lm cm], .agg #[.bool ne, .slice Ae le ce, .bool nf, .slice Af lf cf, .bool ng, .slice Ag lg cg]] w fun v w1 => v = .int .i64 (sgnI (x * r - p * u)) ∧ Ext w w1 := by
 refine ct_run (n := 16) Try.func62 rfl Try.ntmps62 rfl ?_
 have E0 : Below w.heap.size w w := Below.refl _ _
 have lha := Num.len (by decide) ha
 have lhb := Num.len (by decide) hb
 have lhm := Num.len (by decide) hm
 have lhe := Num.len (by decide) he
 have lhf := Num.len (by decide) hf
 have lhg := Num.len (by decide) hg
 refine rk_seq ?_
 refine rk_reg ?_
 refine lw_e (oe_box (v := .agg #[.bool na, .slice Aa la ca, .bool nb, .slice Ab lb cb, .bool nm, .slice Am lm cm]) (cs := #[.bool na, .slice Aa la ca, .bool nb, .slice Ab lb cb, .bool nm, .slice Am lm cm]) (T rfl rfl) rfl ?_)
 intro b1 w2 n3
 have N4 : w.heap.size ≤ b1 := n3.eq ▸ E0.size
 have E5 := below_ext E0 E0.size n3.ext
 refine lw_e (oe_box (v := .agg #[.bool ne, .slice Ae le ce, .bool nf, .slice Af lf cf, .bool ng, .slice Ag lg cg]) (cs := #[.bool ne, .slice Ae le ce, .bool nf, .slice Af lf cf, .bool ng, .slice Ag lg cg]) (T rfl rfl) rfl ?_)
 intro b6 w7 n8
 have N9 : w.heap.size ≤ b6 := n8.eq ▸ E5.size
 have : b1 < b6 := n8.eq ▸ lt_of_blk n3.blk
 have E10 := below_ext E5 E5.size n8.ext
 refine lw_v (.int .i64 0) (dv_assign C) ?_
 refine lw_nil ?_
 refine rk_seq ?_
 refine rk_any (fun w => w.heap[b1]? = some (.cells #[.bool na, .slice Aa la ca, .bool nb, .slice Ab lb cb, .bool nm, .slice Am lm cm] 90) ∧ w.heap[b6]? = some (.cells #[.bool ne, .slice Ae le ce, .bool nf, .slice Af lf cf, .bool ng, .slice Ag lg cg] 90)) [11] mo ?_
 intro w11 d12
 have E13 := below_ext E10 E10.size d12.ext
 have H14 := (d12.ext.blk (n8.ext.blk n3.blk))
 have H15 := (d12.ext.blk n8.blk)
 refine aw_pure 0 (.pointer (some ⟨b1, 0, none⟩)) rfl (by kernel_rfl) .none ⟨H14, H15⟩ (fun _ => dv_fieldAddr (a := ⟨b1, 0, none⟩) (a' := ⟨b1, 0, none⟩) fo90_0 (T rfl rfl) rfl) ?_
 refine aw_load 1 (.agg #[.bool na, .slice Aa la ca]) rfl (by kernel_rfl) .none ⟨H14, H15⟩ (fun _ s => dv_loads (l := [.bool na, .slice Aa la ca]) agt88 sz88 (T rfl rfl) s.1 rfl) ?_
 refine aw_pure 2 (.pointer (some ⟨b6, 4, none⟩)) rfl (by kernel_rfl) .none ⟨H14, H15⟩ (fun _ => dv_fieldAddr (a := ⟨b6, 0, none⟩) (a' := ⟨b6, 4, none⟩) fo90_2 (T rfl rfl) rfl) ?_
 refine aw_load 3 (.agg #[.bool ng, .slice Ag lg cg]) rfl (by kernel_rfl) .none ⟨H14, H15⟩ (fun _ s => dv_loads (l := [.bool ng, .slice Ag lg cg]) agt88 sz88 (T rfl rfl) s.2 rfl) ?_
 refine aw_pure 5 (.pointer (some ⟨b6, 0, none⟩)) rfl (by kernel_rfl) .none ⟨H14, H15⟩ (fun _ => dv_fieldAddr (a := ⟨b6, 0, none⟩) (a' := ⟨b6, 0, none⟩) fo90_0 (T rfl rfl) rfl) ?_
 refine aw_load 6 (.agg #[.bool ne, .slice Ae le ce]) rfl (by kernel_rfl) .none ⟨H14, H15⟩ (fun _ s => dv_loads (l := [.bool ne, .slice Ae le ce]) agt88 sz88 (T rfl rfl) s.2 rfl) ?_
 refine aw_pure 7 (.pointer (some ⟨b1, 4, none⟩)) rfl (by kernel_rfl) .none ⟨H14, H15⟩ (fun _ => dv_fieldAddr (a := ⟨b1, 0, none⟩) (a' := ⟨b1, 4, none⟩) fo90_2 (T rfl rfl) rfl) ?_
 refine aw_load 8 (.agg #[.bool nm, .slice Am lm cm]) rfl (by kernel_rfl) .none ⟨H14, H15⟩ (fun _ s => dv_loads (l := [.bool nm, .slice Am lm cm]) agt88 sz88 (T rfl rfl) s.1 rfl) ?_
 have h16 := (((ha.ext n3.ext).ext n8.ext).ext d12.ext)
 have h17 := (((hg.ext n3.ext).ext n8.ext).ext d12.ext)
 refine aw_one 4 rfl (by kernel_rfl) .none (oe_callf (vs := [.agg #[.bool na, .slice Aa la ca], .agg #[.bool ng, .slice Ag lg cg]]) co109 (ar2 (T rfl rfl) (T rfl rfl)) (l1Mul_ok h16 h17 (by first | decide | omega) (by first | decide | omega)) ?_)
 rintro _ w23 ⟨nr18, A19, n20, c21, rfl, e24, h22⟩
 have E25 := below_ext E13 E13.size e24
 have lh22 := Num.len (by decide) h22
 have H26 := (e24.blk H14)
 have H27 := (e24.blk H15)
 refine ⟨.inr ⟨H26, H27⟩, ?_⟩
 have h28 := ((((he.ext n3.ext).ext n8.ext).ext d12.ext).ext e24)
 have h29 := ((((hm.ext n3.ext).ext n8.ext).ext d12.ext).ext e24)
 refine aw_one 9 rfl (by kernel_rfl) .none (oe_callf (vs := [.agg #[.bool ne, .slice Ae le ce], .agg #[.bool nm, .slice Am lm cm]]) co109 (ar2 (T rfl rfl) (T rfl rfl)) (l1Mul_ok h28 h29 (by first | decide | omega) (by first | decide | omega)) ?_)
 rintro _ w35 ⟨nr30, A31, n32, c33, rfl, e36, h34⟩
 have E37 := below_ext E25 E25.size e36
 have lh34 := Num.len (by decide) h34
 have H38 := (e36.blk H26)
 have H39 := (e36.blk H27)
 refine ⟨.inr ⟨H38, H39⟩, ?_⟩
 have h40 := (h22.ext e36)
 refine aw_one 10 rfl (by kernel_rfl) .none (oe_callf (vs := [.agg #[.bool nr18, .slice A19 n20 c21], .agg #[.bool nr30, .slice A31 n32 c33]]) co97 (ar2 (T rfl rfl) (T rfl rfl)) (l1Cmp_ok h40 h34 (by first | decide | omega) (by first | decide | omega)) ?_)
 rintro _ w41 ⟨rfl, e42⟩
 have E43 := below_ext E37 E37.size e42
 have H44 := (e42.blk H38)
 have H45 := (e42.blk H39)
 refine ⟨.inr ⟨H44, H45⟩, ?_⟩
 refine aw_last 11 (.int .i64 (sgnI ((x * r) - (p * u)))) rfl (by kernel_rfl) .none (fun _ => dv_assign (T rfl rfl)) ?_
 refine aw_done (by kernel_rfl) ?_
 refine rk_ret Try.func62 (v := .int .i64 (sgnI ((x * r) - (p * u)))) (res1 Try.results62 (rv_tmp rfl rfl)) ⟨_, rfl, ?_⟩
 exact ⟨(vi (by rfl)), E43⟩
set_option maxHeartbeats 1000000 in
theorem l3CmpY_ok {w : World}  {na : Bool} {Aa : Option Addr} {la ca : Nat} {x : Int} {sx : Nat} (ha : Num 32 168 .u32 w na Aa la ca x sx) {nb : Bool} {Ab : Option Addr} {lb cb : Nat} {y : Int} {sy : Nat} (hb : Num 32 168 .u32 w nb Ab lb cb y sy) {nm : Bool} {Am : Option Addr} {lm cm : Nat} {u : Int} {su : Nat} (hm : Num 32 168 .u32 w nm Am lm cm u su) {ne : Bool} {Ae : Option Addr} {le ce : Nat} {p : Int} {sp : Nat} (he : Num 32 168 .u32 w ne Ae le ce p sp) {nf : Bool} {Af : Option Addr} {lf cf : Nat} {q : Int} {sq : Nat} (hf : Num 32 168 .u32 w nf Af lf cf q sq) {ng : Bool} {Ag : Option Addr} {lg cg : Nat} {r : Int} {sr : Nat} (hg : Num 32 168 .u32 w ng Ag lg cg r sr) (hbsx : sx ≤ 100000) (hbsy : sy ≤ 100000) (hbsu : su ≤ 100000) (hbsp : sp ≤ 100000) (hbsq : sq ≤ 100000) (hbsr : sr ≤ 100000)  : Ct Try.prog 100 [.agg #[.bool na, .slice Aa la ca, .bool nb, .slice Ab lb cb, .bool nm, .slice Am lm cm], .agg #[.bool ne, .slice Ae le ce, .bool nf, .slice Af lf cf, .bool ng, .slice Ag lg cg]] w fun v w1 => v = .int .i64 (sgnI (y * r - q * u)) ∧ Ext w w1 := by
 refine ct_run (n := 16) Try.func100 rfl Try.ntmps100 rfl ?_
 have E0 : Below w.heap.size w w := Below.refl _ _
 have lha := Num.len (by decide) ha
 have lhb := Num.len (by decide) hb
 have lhm := Num.len (by decide) hm
 have lhe := Num.len (by decide) he
 have lhf := Num.len (by decide) hf
 have lhg := Num.len (by decide) hg
 refine rk_seq ?_
 refine rk_reg ?_
 refine lw_e (oe_box (v := .agg #[.bool na, .slice Aa la ca, .bool nb, .slice Ab lb cb, .bool nm, .slice Am lm cm]) (cs := #[.bool na, .slice Aa la ca, .bool nb, .slice Ab lb cb, .bool nm, .slice Am lm cm]) (T rfl rfl) rfl ?_)
 intro b1 w2 n3
 have N4 : w.heap.size ≤ b1 := n3.eq ▸ E0.size
 have E5 := below_ext E0 E0.size n3.ext
 refine lw_e (oe_box (v := .agg #[.bool ne, .slice Ae le ce, .bool nf, .slice Af lf cf, .bool ng, .slice Ag lg cg]) (cs := #[.bool ne, .slice Ae le ce, .bool nf, .slice Af lf cf, .bool ng, .slice Ag lg cg]) (T rfl rfl) rfl ?_)
 intro b6 w7 n8
 have N9 : w.heap.size ≤ b6 := n8.eq ▸ E5.size
 have : b1 < b6 := n8.eq ▸ lt_of_blk n3.blk
 have E10 := below_ext E5 E5.size n8.ext
 refine lw_v (.int .i64 0) (dv_assign C) ?_
 refine lw_nil ?_
 refine rk_seq ?_
 refine rk_any (fun w => w.heap[b1]? = some (.cells #[.bool na, .slice Aa la ca, .bool nb, .slice Ab lb cb, .bool nm, .slice Am lm cm] 90) ∧ w.heap[b6]? = some (.cells #[.bool ne, .slice Ae le ce, .bool nf, .slice Af lf cf, .bool ng, .slice Ag lg cg] 90)) [11] mo ?_
 intro w11 d12
 have E13 := below_ext E10 E10.size d12.ext
 have H14 := (d12.ext.blk (n8.ext.blk n3.blk))
 have H15 := (d12.ext.blk n8.blk)
 refine aw_pure 0 (.pointer (some ⟨b1, 2, none⟩)) rfl (by kernel_rfl) .none ⟨H14, H15⟩ (fun _ => dv_fieldAddr (a := ⟨b1, 0, none⟩) (a' := ⟨b1, 2, none⟩) fo90_1 (T rfl rfl) rfl) ?_
 refine aw_load 1 (.agg #[.bool nb, .slice Ab lb cb]) rfl (by kernel_rfl) .none ⟨H14, H15⟩ (fun _ s => dv_loads (l := [.bool nb, .slice Ab lb cb]) agt88 sz88 (T rfl rfl) s.1 rfl) ?_
 refine aw_pure 2 (.pointer (some ⟨b6, 4, none⟩)) rfl (by kernel_rfl) .none ⟨H14, H15⟩ (fun _ => dv_fieldAddr (a := ⟨b6, 0, none⟩) (a' := ⟨b6, 4, none⟩) fo90_2 (T rfl rfl) rfl) ?_
 refine aw_load 3 (.agg #[.bool ng, .slice Ag lg cg]) rfl (by kernel_rfl) .none ⟨H14, H15⟩ (fun _ s => dv_loads (l := [.bool ng, .slice Ag lg cg]) agt88 sz88 (T rfl rfl) s.2 rfl) ?_
 refine aw_pure 5 (.pointer (some ⟨b6, 2, none⟩)) rfl (by kernel_rfl) .none ⟨H14, H15⟩ (fun _ => dv_fieldAddr (a := ⟨b6, 0, none⟩) (a' := ⟨b6, 2, none⟩) fo90_1 (T rfl rfl) rfl) ?_
 refine aw_load 6 (.agg #[.bool nf, .slice Af lf cf]) rfl (by kernel_rfl) .none ⟨H14, H15⟩ (fun _ s => dv_loads (l := [.bool nf, .slice Af lf cf]) agt88 sz88 (T rfl rfl) s.2 rfl) ?_
 refine aw_pure 7 (.pointer (some ⟨b1, 4, none⟩)) rfl (by kernel_rfl) .none ⟨H14, H15⟩ (fun _ => dv_fieldAddr (a := ⟨b1, 0, none⟩) (a' := ⟨b1, 4, none⟩) fo90_2 (T rfl rfl) rfl) ?_
 refine aw_load 8 (.agg #[.bool nm, .slice Am lm cm]) rfl (by kernel_rfl) .none ⟨H14, H15⟩ (fun _ s => dv_loads (l := [.bool nm, .slice Am lm cm]) agt88 sz88 (T rfl rfl) s.1 rfl) ?_
 have h16 := (((hb.ext n3.ext).ext n8.ext).ext d12.ext)
 have h17 := (((hg.ext n3.ext).ext n8.ext).ext d12.ext)
 refine aw_one 4 rfl (by kernel_rfl) .none (oe_callf (vs := [.agg #[.bool nb, .slice Ab lb cb], .agg #[.bool ng, .slice Ag lg cg]]) co109 (ar2 (T rfl rfl) (T rfl rfl)) (l1Mul_ok h16 h17 (by first | decide | omega) (by first | decide | omega)) ?_)
 rintro _ w23 ⟨nr18, A19, n20, c21, rfl, e24, h22⟩
 have E25 := below_ext E13 E13.size e24
 have lh22 := Num.len (by decide) h22
 have H26 := (e24.blk H14)
 have H27 := (e24.blk H15)
 refine ⟨.inr ⟨H26, H27⟩, ?_⟩
 have h28 := ((((hf.ext n3.ext).ext n8.ext).ext d12.ext).ext e24)
 have h29 := ((((hm.ext n3.ext).ext n8.ext).ext d12.ext).ext e24)
 refine aw_one 9 rfl (by kernel_rfl) .none (oe_callf (vs := [.agg #[.bool nf, .slice Af lf cf], .agg #[.bool nm, .slice Am lm cm]]) co109 (ar2 (T rfl rfl) (T rfl rfl)) (l1Mul_ok h28 h29 (by first | decide | omega) (by first | decide | omega)) ?_)
 rintro _ w35 ⟨nr30, A31, n32, c33, rfl, e36, h34⟩
 have E37 := below_ext E25 E25.size e36
 have lh34 := Num.len (by decide) h34
 have H38 := (e36.blk H26)
 have H39 := (e36.blk H27)
 refine ⟨.inr ⟨H38, H39⟩, ?_⟩
 have h40 := (h22.ext e36)
 refine aw_one 10 rfl (by kernel_rfl) .none (oe_callf (vs := [.agg #[.bool nr18, .slice A19 n20 c21], .agg #[.bool nr30, .slice A31 n32 c33]]) co97 (ar2 (T rfl rfl) (T rfl rfl)) (l1Cmp_ok h40 h34 (by first | decide | omega) (by first | decide | omega)) ?_)
 rintro _ w41 ⟨rfl, e42⟩
 have E43 := below_ext E37 E37.size e42
 have H44 := (e42.blk H38)
 have H45 := (e42.blk H39)
 refine ⟨.inr ⟨H44, H45⟩, ?_⟩
 refine aw_last 11 (.int .i64 (sgnI ((y * r) - (q * u)))) rfl (by kernel_rfl) .none (fun _ => dv_assign (T rfl rfl)) ?_
 refine aw_done (by kernel_rfl) ?_
 refine rk_ret Try.func100 (v := .int .i64 (sgnI ((y * r) - (q * u)))) (res1 Try.results100 (rv_tmp rfl rfl)) ⟨_, rfl, ?_⟩
 exact ⟨(vi (by rfl)), E43⟩
set_option maxHeartbeats 1000000 in
theorem l3Cmp_ok {w : World}  {na : Bool} {Aa : Option Addr} {la ca : Nat} {x : Int} {sx : Nat} (ha : Num 32 168 .u32 w na Aa la ca x sx) {nb : Bool} {Ab : Option Addr} {lb cb : Nat} {y : Int} {sy : Nat} (hb : Num 32 168 .u32 w nb Ab lb cb y sy) {nm : Bool} {Am : Option Addr} {lm cm : Nat} {u : Int} {su : Nat} (hm : Num 32 168 .u32 w nm Am lm cm u su) {ne : Bool} {Ae : Option Addr} {le ce : Nat} {p : Int} {sp : Nat} (he : Num 32 168 .u32 w ne Ae le ce p sp) {nf : Bool} {Af : Option Addr} {lf cf : Nat} {q : Int} {sq : Nat} (hf : Num 32 168 .u32 w nf Af lf cf q sq) {ng : Bool} {Ag : Option Addr} {lg cg : Nat} {r : Int} {sr : Nat} (hg : Num 32 168 .u32 w ng Ag lg cg r sr) (hbsx : sx ≤ 100000) (hbsy : sy ≤ 100000) (hbsu : su ≤ 100000) (hbsp : sp ≤ 100000) (hbsq : sq ≤ 100000) (hbsr : sr ≤ 100000)  : Ct Try.prog 51 [.agg #[.bool na, .slice Aa la ca, .bool nb, .slice Ab lb cb, .bool nm, .slice Am lm cm], .agg #[.bool ne, .slice Ae le ce, .bool nf, .slice Af lf cf, .bool ng, .slice Ag lg cg]] w fun v w1 => v = .int .i64 (pc x y u p q r) ∧ Ext w w1 := by
 refine ct_run (n := 15) Try.func51 rfl Try.ntmps51 rfl ?_
 have E0 : Below w.heap.size w w := Below.refl _ _
 have lha := Num.len (by decide) ha
 have lhb := Num.len (by decide) hb
 have lhm := Num.len (by decide) hm
 have lhe := Num.len (by decide) he
 have lhf := Num.len (by decide) hf
 have lhg := Num.len (by decide) hg
 refine rk_seq ?_
 refine rk_reg ?_
 refine lw_e (oe_box (v := .agg #[.bool na, .slice Aa la ca, .bool nb, .slice Ab lb cb, .bool nm, .slice Am lm cm]) (cs := #[.bool na, .slice Aa la ca, .bool nb, .slice Ab lb cb, .bool nm, .slice Am lm cm]) (T rfl rfl) rfl ?_)
 intro b1 w2 n3
 have N4 : w.heap.size ≤ b1 := n3.eq ▸ E0.size
 have E5 := below_ext E0 E0.size n3.ext
 refine lw_e (oe_box (v := .agg #[.bool ne, .slice Ae le ce, .bool nf, .slice Af lf cf, .bool ng, .slice Ag lg cg]) (cs := #[.bool ne, .slice Ae le ce, .bool nf, .slice Af lf cf, .bool ng, .slice Ag lg cg]) (T rfl rfl) rfl ?_)
 intro b6 w7 n8
 have N9 : w.heap.size ≤ b6 := n8.eq ▸ E5.size
 have : b1 < b6 := n8.eq ▸ lt_of_blk n3.blk
 have E10 := below_ext E5 E5.size n8.ext
 refine lw_v (.int .i64 0) (dv_assign C) ?_
 refine lw_nil ?_
 refine rk_seq ?_
 refine rk_reg ?_
 have H11 := (n8.ext.blk n3.blk)
 refine lw_v (.agg #[.bool na, .slice Aa la ca, .bool nb, .slice Ab lb cb, .bool nm, .slice Am lm cm]) (dv_loads (l := [.bool na, .slice Aa la ca, .bool nb, .slice Ab lb cb, .bool nm, .slice Am lm cm]) agt90 sz90 (T rfl rfl) H11 rfl) ?_
 refine lw_v (.agg #[.bool ne, .slice Ae le ce, .bool nf, .slice Af lf cf, .bool ng, .slice Ag lg cg]) (dv_loads (l := [.bool ne, .slice Ae le ce, .bool nf, .slice Af lf cf, .bool ng, .slice Ag lg cg]) agt90 sz90 (T rfl rfl) n8.blk rfl) ?_
 have h12 := ((ha.ext n3.ext).ext n8.ext)
 have h13 := ((hb.ext n3.ext).ext n8.ext)
 have h14 := ((hm.ext n3.ext).ext n8.ext)
 have h15 := ((he.ext n3.ext).ext n8.ext)
 have h16 := ((hf.ext n3.ext).ext n8.ext)
 have h17 := ((hg.ext n3.ext).ext n8.ext)
 refine lw_e (oe_callf (vs := [.agg #[.bool na, .slice Aa la ca, .bool nb, .slice Ab lb cb, .bool nm, .slice Am lm cm], .agg #[.bool ne, .slice Ae le ce, .bool nf, .slice Af lf cf, .bool ng, .slice Ag lg cg]]) co62 (ar2 (T rfl rfl) (T rfl rfl)) (l3CmpX_ok h12 h13 h14 h15 h16 h17 (by first | decide | omega) (by first | decide | omega) (by first | decide | omega) (by first | decide | omega) (by first | decide | omega) (by first | decide | omega) ) ?_)
 rintro _ w18 ⟨rfl, e19⟩
 have E20 := below_ext E10 E10.size e19
 refine lw_v (.int .i64 (sgnI (x * r - p * u))) (dv_assign (T rfl rfl)) ?_
 refine lw_nil ?_
 refine rk_seq ?_
 refine rk_seq ?_
 refine rk_reg ?_
 refine lw_v (.int .i64 (sgnI (x * r - p * u))) (dv_move (T rfl rfl)) ?_
 refine lw_v (.bool (decide ((sgnI (x * r - p * u)) ≠ 0))) (dv_neq (a := sgnI (x * r - p * u)) (b := 0) (T rfl rfl) C) ?_
 refine lw_nil ?_
 by_cases hb21 : (sgnI (x * r - p * u)) ≠ 0
 · refine rk_ct (T rfl (congrArg Value.bool (decide_eq_true hb21))) ?_
   refine rk_seq ?_
   refine rk_reg ?_
   refine lw_v (.int .i64 (sgnI (x * r - p * u))) (dv_move (T rfl rfl)) ?_
   refine lw_v (.int .i64 (sgnI (x * r - p * u))) (dv_assign (T rfl rfl)) ?_
   refine lw_nil ?_
   refine rk_ret Try.func51 (v := .int .i64 (sgnI (x * r - p * u))) (res1 Try.results51 (rv_tmp rfl rfl)) ⟨_, rfl, ?_⟩
   exact ⟨(vi (by unfold pc; first | rw [if_pos (by assumption)] | rw [if_neg (by assumption)])), E20⟩
 · refine rk_cf (T rfl (congrArg Value.bool (decide_eq_false hb21))) ?_
   refine rk_skip ?_
   refine rk_seq ?_
   refine rk_reg ?_
   have H22 := (e19.blk H11)
   refine lw_v (.agg #[.bool na, .slice Aa la ca, .bool nb, .slice Ab lb cb, .bool nm, .slice Am lm cm]) (dv_loads (l := [.bool na, .slice Aa la ca, .bool nb, .slice Ab lb cb, .bool nm, .slice Am lm cm]) agt90 sz90 (T rfl rfl) H22 rfl) ?_
   have H23 := (e19.blk n8.blk)
   refine lw_v (.agg #[.bool ne, .slice Ae le ce, .bool nf, .slice Af lf cf, .bool ng, .slice Ag lg cg]) (dv_loads (l := [.bool ne, .slice Ae le ce, .bool nf, .slice Af lf cf, .bool ng, .slice Ag lg cg]) agt90 sz90 (T rfl rfl) H23 rfl) ?_
   have h24 := (h12.ext e19)
   have h25 := (h13.ext e19)
   have h26 := (h14.ext e19)
   have h27 := (h15.ext e19)
   have h28 := (h16.ext e19)
   have h29 := (h17.ext e19)
   refine lw_e (oe_callf (vs := [.agg #[.bool na, .slice Aa la ca, .bool nb, .slice Ab lb cb, .bool nm, .slice Am lm cm], .agg #[.bool ne, .slice Ae le ce, .bool nf, .slice Af lf cf, .bool ng, .slice Ag lg cg]]) co100 (ar2 (T rfl rfl) (T rfl rfl)) (l3CmpY_ok h24 h25 h26 h27 h28 h29 (by first | decide | omega) (by first | decide | omega) (by first | decide | omega) (by first | decide | omega) (by first | decide | omega) (by first | decide | omega) ) ?_)
   rintro _ w30 ⟨rfl, e31⟩
   have E32 := below_ext E20 E20.size e31
   refine lw_v (.int .i64 (sgnI (y * r - q * u))) (dv_assign (T rfl rfl)) ?_
   refine lw_nil ?_
   refine rk_ret Try.func51 (v := .int .i64 (sgnI (y * r - q * u))) (res1 Try.results51 (rv_tmp rfl rfl)) ⟨_, rfl, ?_⟩
   exact ⟨(vi (by unfold pc; first | rw [if_pos (by assumption)] | rw [if_neg (by assumption)])), E32⟩
set_option maxHeartbeats 1000000 in
theorem cmpPoints_ok {w : World} {x y u p q r : Int} (fx_ : fits x) (fy_ : fits y) (fu_ : fits u) (fp_ : fits p) (fq_ : fits q) (fr_ : fits r)  : Ct Try.prog 57 [.agg #[.int .u64 (wv3 x), .int .u64 (wv2 x), .int .u64 (wv1 x), .int .u64 (wv0 x), .int .u64 (wv3 y), .int .u64 (wv2 y), .int .u64 (wv1 y), .int .u64 (wv0 y), .int .u64 (wv3 u), .int .u64 (wv2 u), .int .u64 (wv1 u), .int .u64 (wv0 u)], .agg #[.int .u64 (wv3 p), .int .u64 (wv2 p), .int .u64 (wv1 p), .int .u64 (wv0 p), .int .u64 (wv3 q), .int .u64 (wv2 q), .int .u64 (wv1 q), .int .u64 (wv0 q), .int .u64 (wv3 r), .int .u64 (wv2 r), .int .u64 (wv1 r), .int .u64 (wv0 r)]] w fun v w1 => v = .int .i64 (pc x y u p q r) ∧ Ext w w1 := by
 refine ct_run (n := 40) Try.func57 rfl Try.ntmps57 rfl ?_
 have E0 : Below w.heap.size w w := Below.refl _ _
 refine rk_seq ?_
 refine rk_reg ?_
 refine lw_e (oe_box (v := .agg #[.int .u64 (wv3 x), .int .u64 (wv2 x), .int .u64 (wv1 x), .int .u64 (wv0 x), .int .u64 (wv3 y), .int .u64 (wv2 y), .int .u64 (wv1 y), .int .u64 (wv0 y), .int .u64 (wv3 u), .int .u64 (wv2 u), .int .u64 (wv1 u), .int .u64 (wv0 u)]) (cs := #[.int .u64 (wv3 x), .int .u64 (wv2 x), .int .u64 (wv1 x), .int .u64 (wv0 x), .int .u64 (wv3 y), .int .u64 (wv2 y), .int .u64 (wv1 y), .int .u64 (wv0 y), .int .u64 (wv3 u), .int .u64 (wv2 u), .int .u64 (wv1 u), .int .u64 (wv0 u)]) (T rfl rfl) rfl ?_)
 intro b1 w2 n3
 have N4 : w.heap.size ≤ b1 := n3.eq ▸ E0.size
 have E5 := below_ext E0 E0.size n3.ext
 refine lw_e (oe_box (v := .agg #[.int .u64 (wv3 p), .int .u64 (wv2 p), .int .u64 (wv1 p), .int .u64 (wv0 p), .int .u64 (wv3 q), .int .u64 (wv2 q), .int .u64 (wv1 q), .int .u64 (wv0 q), .int .u64 (wv3 r), .int .u64 (wv2 r), .int .u64 (wv1 r), .int .u64 (wv0 r)]) (cs := #[.int .u64 (wv3 p), .int .u64 (wv2 p), .int .u64 (wv1 p), .int .u64 (wv0 p), .int .u64 (wv3 q), .int .u64 (wv2 q), .int .u64 (wv1 q), .int .u64 (wv0 q), .int .u64 (wv3 r), .int .u64 (wv2 r), .int .u64 (wv1 r), .int .u64 (wv0 r)]) (T rfl rfl) rfl ?_)
 intro b6 w7 n8
 have N9 : w.heap.size ≤ b6 := n8.eq ▸ E5.size
 have : b1 < b6 := n8.eq ▸ lt_of_blk n3.blk
 have E10 := below_ext E5 E5.size n8.ext
 refine lw_v (.int .i64 0) (dv_assign C) ?_
 refine lw_nil ?_
 refine rk_seq ?_
 refine rk_seq ?_
 refine rk_reg ?_
 have H11 := (n8.ext.blk n3.blk)
 refine lw_v (.agg #[.int .u64 (wv3 x), .int .u64 (wv2 x), .int .u64 (wv1 x), .int .u64 (wv0 x), .int .u64 (wv3 y), .int .u64 (wv2 y), .int .u64 (wv1 y), .int .u64 (wv0 y), .int .u64 (wv3 u), .int .u64 (wv2 u), .int .u64 (wv1 u), .int .u64 (wv0 u)]) (dv_loads (l := [.int .u64 (wv3 x), .int .u64 (wv2 x), .int .u64 (wv1 x), .int .u64 (wv0 x), .int .u64 (wv3 y), .int .u64 (wv2 y), .int .u64 (wv1 y), .int .u64 (wv0 y), .int .u64 (wv3 u), .int .u64 (wv2 u), .int .u64 (wv1 u), .int .u64 (wv0 u)]) agt40 sz40 (T rfl rfl) H11 rfl) ?_
 refine lw_v (.agg #[.int .u64 (wv3 p), .int .u64 (wv2 p), .int .u64 (wv1 p), .int .u64 (wv0 p), .int .u64 (wv3 q), .int .u64 (wv2 q), .int .u64 (wv1 q), .int .u64 (wv0 q), .int .u64 (wv3 r), .int .u64 (wv2 r), .int .u64 (wv1 r), .int .u64 (wv0 r)]) (dv_loads (l := [.int .u64 (wv3 p), .int .u64 (wv2 p), .int .u64 (wv1 p), .int .u64 (wv0 p), .int .u64 (wv3 q), .int .u64 (wv2 q), .int .u64 (wv1 q), .int .u64 (wv0 q), .int .u64 (wv3 r), .int .u64 (wv2 r), .int .u64 (wv1 r), .int .u64 (wv0 r)]) agt40 sz40 (T rfl rfl) n8.blk rfl) ?_
 refine lw_v (.bool (decide (([wv3 x, wv2 x, wv1 x, wv0 x, wv3 y, wv2 y, wv1 y, wv0 y, wv3 u, wv2 u, wv1 u, wv0 u] : List Int) = [wv3 p, wv2 p, wv1 p, wv0 p, wv3 q, wv2 q, wv1 q, wv0 q, wv3 r, wv2 r, wv1 r, wv0 r]))) (dv_eqln (k := .u64) (la := [wv3 x, wv2 x, wv1 x, wv0 x, wv3 y, wv2 y, wv1 y, wv0 y, wv3 u, wv2 u, wv1 u, wv0 u]) (lb := [wv3 p, wv2 p, wv1 p, wv0 p, wv3 q, wv2 q, wv1 q, wv0 q, wv3 r, wv2 r, wv1 r, wv0 r]) fl40 eg40 (T rfl rfl) (T rfl rfl) rfl rfl) ?_
 refine lw_nil ?_
 by_cases hb12 : ([wv3 x, wv2 x, wv1 x, wv0 x, wv3 y, wv2 y, wv1 y, wv0 y, wv3 u, wv2 u, wv1 u, wv0 u] : List Int) = [wv3 p, wv2 p, wv1 p, wv0 p, wv3 q, wv2 q, wv1 q, wv0 q, wv3 r, wv2 r, wv1 r, wv0 r]
 · have hz13 := (wl3_eq fx_ fy_ fu_ fp_ fq_ fr_).1 hb12
   refine rk_ct (T rfl (congrArg Value.bool (decide_eq_true hb12))) ?_
   refine rk_seq ?_
   refine rk_reg ?_
   refine lw_v (.int .i64 0) (dv_assign C) ?_
   refine lw_nil ?_
   refine rk_ret Try.func57 (v := .int .i64 0) (res1 Try.results57 (rv_tmp rfl rfl)) ⟨_, rfl, ?_⟩
   exact ⟨(vi (by exact (by first | (obtain ⟨rfl, rfl, rfl⟩ : x = p ∧ y = q ∧ u = r := ‹_›; exact (pc_self ..).symm) | (unfold pc; first | rw [if_pos (by assumption)] | rw [if_neg (by assumption)])))), E10⟩
 · have hz14 := mt (wl3_eq fx_ fy_ fu_ fp_ fq_ fr_).2 hb12
   refine rk_cf (T rfl (congrArg Value.bool (decide_eq_false hb12))) ?_
   refine rk_skip ?_
   refine rk_seq ?_
   have : b1 < w7.heap.size := lt_of_blk H11
   have : b6 < w7.heap.size := lt_of_blk n8.blk
   have : w.heap.size ≤ w7.heap.size := E10.size
   refine rk_par2 [fun vq wq_ => vq = .agg #[.int .u64 (wv3 x), .int .u64 (wv2 x), .int .u64 (wv1 x), .int .u64 (wv0 x), .int .u64 (wv3 y), .int .u64 (wv2 y), .int .u64 (wv1 y), .int .u64 (wv0 y), .int .u64 (wv3 u), .int .u64 (wv2 u), .int .u64 (wv1 u), .int .u64 (wv0 u)], fun vq wq_ => ∃ (nr29 : Bool) (A30 : Option Addr) (n31 : Nat) (c32 : Nat) (nr33 : Bool) (A34 : Option Addr) (n35 : Nat) (c36 : Nat) (nr37 : Bool) (A38 : Option Addr) (n39 : Nat) (c40 : Nat), vq = .agg #[.bool nr29, .slice A30 n31 c32, .bool nr33, .slice A34 n35 c36, .bool nr37, .slice A38 n39 c40] ∧ Num 64 36 .u64 wq_ nr29 A30 n31 c32 x 256 ∧ Num 64 36 .u64 wq_ nr33 A34 n35 c36 y 256 ∧ Num 64 36 .u64 wq_ nr37 A38 n39 c40 u 256, fun vq wq_ => vq = .agg #[.int .u64 (wv3 p), .int .u64 (wv2 p), .int .u64 (wv1 p), .int .u64 (wv0 p), .int .u64 (wv3 q), .int .u64 (wv2 q), .int .u64 (wv1 q), .int .u64 (wv0 q), .int .u64 (wv3 r), .int .u64 (wv2 r), .int .u64 (wv1 r), .int .u64 (wv0 r)], fun vq wq_ => ∃ (nr61 : Bool) (A62 : Option Addr) (n63 : Nat) (c64 : Nat) (nr65 : Bool) (A66 : Option Addr) (n67 : Nat) (c68 : Nat) (nr69 : Bool) (A70 : Option Addr) (n71 : Nat) (c72 : Nat), vq = .agg #[.bool nr61, .slice A62 n63 c64, .bool nr65, .slice A66 n67 c68, .bool nr69, .slice A70 n71 c72] ∧ Num 64 36 .u64 wq_ nr61 A62 n63 c64 p 256 ∧ Num 64 36 .u64 wq_ nr65 A66 n67 c68 q 256 ∧ Num 64 36 .u64 wq_ nr69 A70 n71 c72 r 256, fun _ _ => True, fun _ _ => True, fun _ _ => True, fun _ _ => True] [⟨4, 6, 1, 109, #[.bool false, .slice none 0 0, .bool false, .slice none 0 0, .bool false, .slice none 0 0]⟩, ⟨5, 7, 3, 109, #[.bool false, .slice none 0 0, .bool false, .slice none 0 0, .bool false, .slice none 0 0]⟩] [109] mo (by kernel_rfl) (by kernel_rfl) ?_ ?_ ?_ ?_ ?_
   · intro e he e2 he2 h; simp only [List.mem_cons, List.not_mem_nil, or_false] at he he2; rcases he with rfl | rfl <;> rcases he2 with rfl | rfl <;> first | rfl | exact absurd h (by decide)
   · exact ⟨⟨fun v w w2 e h => h, fun v w w2 b cs T fz s hb hT h => h⟩, ⟨fun v w w2 e ⟨nr29, A30, n31, c32, nr33, A34, n35, c36, nr37, A38, n39, c40, hv, h0_, h1_, h2_⟩ => ⟨nr29, A30, n31, c32, nr33, A34, n35, c36, nr37, A38, n39, c40, hv, h0_.ext e, h1_.ext e, h2_.ext e⟩, fun v w w2 b cs T fz s hb hT ⟨nr29, A30, n31, c32, nr33, A34, n35, c36, nr37, A38, n39, c40, hv, h0_, h1_, h2_⟩ => ⟨nr29, A30, n31, c32, nr33, A34, n35, c36, nr37, A38, n39, c40, hv, h0_.st s hb (ts_ne hT (by decide)), h1_.st s hb (ts_ne hT (by decide)), h2_.st s hb (ts_ne hT (by decide))⟩⟩, ⟨fun v w w2 e h => h, fun v w w2 b cs T fz s hb hT h => h⟩, ⟨fun v w w2 e ⟨nr61, A62, n63, c64, nr65, A66, n67, c68, nr69, A70, n71, c72, hv, h0_, h1_, h2_⟩ => ⟨nr61, A62, n63, c64, nr65, A66, n67, c68, nr69, A70, n71, c72, hv, h0_.ext e, h1_.ext e, h2_.ext e⟩, fun v w w2 b cs T fz s hb hT ⟨nr61, A62, n63, c64, nr65, A66, n67, c68, nr69, A70, n71, c72, hv, h0_, h1_, h2_⟩ => ⟨nr61, A62, n63, c64, nr65, A66, n67, c68, nr69, A70, n71, c72, hv, h0_.st s hb (ts_ne hT (by decide)), h1_.st s hb (ts_ne hT (by decide)), h2_.st s hb (ts_ne hT (by decide))⟩⟩, ⟨fun v w w2 e h => h, fun v w w2 b cs T fz s hb hT h => h⟩, ⟨fun v w w2 e h => h, fun v w w2 b cs T fz s hb hT h => h⟩, ⟨fun v w w2 e h => h, fun v w w2 b cs T fz s hb hT h => h⟩, ⟨fun v w w2 e h => h, fun v w w2 b cs T fz s hb hT h => h⟩, trivial⟩
   · refine ⟨?_, ?_, ?_, ?_, ?_, ?_, ?_, ?_, trivial⟩
     · refine .inr ⟨by kernel_rfl, ?_⟩
       intro fr16 w15 e17 hF18 hD19
       have E20 := below_ext E10 E10.size e17
       have H21 := (e17.blk H11)
       exact DV.oe (dv_loads (l := [.int .u64 (wv3 x), .int .u64 (wv2 x), .int .u64 (wv1 x), .int .u64 (wv0 x), .int .u64 (wv3 y), .int .u64 (wv2 y), .int .u64 (wv1 y), .int .u64 (wv0 y), .int .u64 (wv3 u), .int .u64 (wv2 u), .int .u64 (wv1 u), .int .u64 (wv0 u)]) agt40 sz40 (T rfl (hF18 2 (by kernel_rfl))) H21 rfl) ⟨Below.refl _ _, rfl⟩
     · refine .inr ⟨by kernel_rfl, ?_⟩
       intro fr23 w22 e24 hF25 hD26
       have E27 := below_ext E10 E10.size e24
       have hv28 : fr23 11 = .agg #[.int .u64 (wv3 x), .int .u64 (wv2 x), .int .u64 (wv1 x), .int .u64 (wv0 x), .int .u64 (wv3 y), .int .u64 (wv2 y), .int .u64 (wv1 y), .int .u64 (wv0 y), .int .u64 (wv3 u), .int .u64 (wv2 u), .int .u64 (wv1 u), .int .u64 (wv0 u)] := hD26 0 _ (by kernel_rfl) rfl (by kernel_rfl)
       refine id (oe_callf (vs := [.agg #[.int .u64 (wv3 x), .int .u64 (wv2 x), .int .u64 (wv1 x), .int .u64 (wv0 x), .int .u64 (wv3 y), .int .u64 (wv2 y), .int .u64 (wv1 y), .int .u64 (wv0 y), .int .u64 (wv3 u), .int .u64 (wv2 u), .int .u64 (wv1 u), .int .u64 (wv0 u)]]) co68 (ar1 (T rfl hv28)) (spot_ok fx_ fy_ fu_  ) ?_)
       rintro _ w44 ⟨nr29, A30, n31, c32, nr33, A34, n35, c36, nr37, A38, n39, c40, rfl, e45, h41, h42, h43⟩
       have E46 := below_ext E27 E27.size e45
       have lh41 := Num.len (by decide) h41
       have lh42 := Num.len (by decide) h42
       have lh43 := Num.len (by decide) h43
       exact ⟨e45, nr29, A30, n31, c32, nr33, A34, n35, c36, nr37, A38, n39, c40, rfl, h41, h42, h43⟩
     · refine .inr ⟨by kernel_rfl, ?_⟩
       intro fr48 w47 e49 hF50 hD51
       have E52 := below_ext E10 E10.size e49
       have H53 := (e49.blk n8.blk)
       exact DV.oe (dv_loads (l := [.int .u64 (wv3 p), .int .u64 (wv2 p), .int .u64 (wv1 p), .int .u64 (wv0 p), .int .u64 (wv3 q), .int .u64 (wv2 q), .int .u64 (wv1 q), .int .u64 (wv0 q), .int .u64 (wv3 r), .int .u64 (wv2 r), .int .u64 (wv1 r), .int .u64 (wv0 r)]) agt40 sz40 (T rfl (hF50 3 (by kernel_rfl))) H53 rfl) ⟨Below.refl _ _, rfl⟩
     · refine .inr ⟨by kernel_rfl, ?_⟩
       intro fr55 w54 e56 hF57 hD58
       have E59 := below_ext E10 E10.size e56
       have hv60 : fr55 13 = .agg #[.int .u64 (wv3 p), .int .u64 (wv2 p), .int .u64 (wv1 p), .int .u64 (wv0 p), .int .u64 (wv3 q), .int .u64 (wv2 q), .int .u64 (wv1 q), .int .u64 (wv0 q), .int .u64 (wv3 r), .int .u64 (wv2 r), .int .u64 (wv1 r), .int .u64 (wv0 r)] := hD58 2 _ (by kernel_rfl) rfl (by kernel_rfl)
       refine id (oe_callf (vs := [.agg #[.int .u64 (wv3 p), .int .u64 (wv2 p), .int .u64 (wv1 p), .int .u64 (wv0 p), .int .u64 (wv3 q), .int .u64 (wv2 q), .int .u64 (wv1 q), .int .u64 (wv0 q), .int .u64 (wv3 r), .int .u64 (wv2 r), .int .u64 (wv1 r), .int .u64 (wv0 r)]]) co68 (ar1 (T rfl hv60)) (spot_ok fp_ fq_ fr_  ) ?_)
       rintro _ w76 ⟨nr61, A62, n63, c64, nr65, A66, n67, c68, nr69, A70, n71, c72, rfl, e77, h73, h74, h75⟩
       have E78 := below_ext E59 E59.size e77
       have lh73 := Num.len (by decide) h73
       have lh74 := Num.len (by decide) h74
       have lh75 := Num.len (by decide) h75
       exact ⟨e77, nr61, A62, n63, c64, nr65, A66, n67, c68, nr69, A70, n71, c72, rfl, h73, h74, h75⟩
     · exact .inl (.inr ⟨by kernel_rfl, fun _ _ => trivial⟩)
     · exact .inl (.inr ⟨by kernel_rfl, fun _ _ => trivial⟩)
     · exact .inl (.inl (by kernel_rfl))
     · exact .inl (.inl (by kernel_rfl))
   · refine ⟨⟨⟨_, rfl, fun _ _ => oe_alloc ze109 fun b w hn => ⟨b, rfl, hn⟩⟩, ⟨_, rfl, ?_⟩⟩, ⟨⟨_, rfl, fun _ _ => oe_alloc ze109 fun b w hn => ⟨b, rfl, hn⟩⟩, ⟨_, rfl, ?_⟩⟩, trivial⟩
     · intro fr80 w79 b84 e81 hF82 hD83 hA85 hB86
       have E87 := below_ext E10 E10.size e81
       obtain ⟨nr88, A89, n90, c91, nr92, A93, n94, c95, nr96, A97, n98, c99, hv100, hp101, hp102, hp103⟩ : ∃ (nr29 : Bool) (A30 : Option Addr) (n31 : Nat) (c32 : Nat) (nr33 : Bool) (A34 : Option Addr) (n35 : Nat) (c36 : Nat) (nr37 : Bool) (A38 : Option Addr) (n39 : Nat) (c40 : Nat), fr80 12 = .agg #[.bool nr29, .slice A30 n31 c32, .bool nr33, .slice A34 n35 c36, .bool nr37, .slice A38 n39 c40] ∧ Num 64 36 .u64 w79 nr29 A30 n31 c32 x 256 ∧ Num 64 36 .u64 w79 nr33 A34 n35 c36 y 256 ∧ Num 64 36 .u64 w79 nr37 A38 n39 c40 u 256 := hD83 1 _ (by kernel_rfl) rfl (by kernel_rfl)
       have lhp101 := Num.len (by decide) hp101
       have lhp102 := Num.len (by decide) hp102
       have lhp103 := Num.len (by decide) hp103
       refine id (oe_store (v := .agg #[.bool nr88, .slice A89 n90 c91, .bool nr92, .slice A93 n94 c95, .bool nr96, .slice A97 n98 c99]) (vs := [.bool nr88, .slice A89 n90 c91, .bool nr92, .slice A93 n94 c95, .bool nr96, .slice A97 n98 c99]) (l := [.bool nr88, .slice A89 n90 c91, .bool nr92, .slice A93 n94 c95, .bool nr96, .slice A97 n98 c99]) (T rfl hA85) (T rfl hv100) sz109 rfl rfl rfl hB86 rfl ?_)
       intro w104 s105 H106
       exact ⟨s105, H106.trans (congrArg (fun v : Value => some (Obj.cells v.cells 109)) (show fr80 12 = _ from hv100).symm)⟩
     · intro fr109 w108 b113 e110 hF111 hD112 hA114 hB115
       have E116 := below_ext E10 E10.size e110
       obtain ⟨nr117, A118, n119, c120, nr121, A122, n123, c124, nr125, A126, n127, c128, hv129, hp130, hp131, hp132⟩ : ∃ (nr61 : Bool) (A62 : Option Addr) (n63 : Nat) (c64 : Nat) (nr65 : Bool) (A66 : Option Addr) (n67 : Nat) (c68 : Nat) (nr69 : Bool) (A70 : Option Addr) (n71 : Nat) (c72 : Nat), fr109 14 = .agg #[.bool nr61, .slice A62 n63 c64, .bool nr65, .slice A66 n67 c68, .bool nr69, .slice A70 n71 c72] ∧ Num 64 36 .u64 w108 nr61 A62 n63 c64 p 256 ∧ Num 64 36 .u64 w108 nr65 A66 n67 c68 q 256 ∧ Num 64 36 .u64 w108 nr69 A70 n71 c72 r 256 := hD112 3 _ (by kernel_rfl) rfl (by kernel_rfl)
       have lhp130 := Num.len (by decide) hp130
       have lhp131 := Num.len (by decide) hp131
       have lhp132 := Num.len (by decide) hp132
       refine id (oe_store (v := .agg #[.bool nr117, .slice A118 n119 c120, .bool nr121, .slice A122 n123 c124, .bool nr125, .slice A126 n127 c128]) (vs := [.bool nr117, .slice A118 n119 c120, .bool nr121, .slice A122 n123 c124, .bool nr125, .slice A126 n127 c128]) (l := [.bool nr117, .slice A118 n119 c120, .bool nr121, .slice A122 n123 c124, .bool nr125, .slice A126 n127 c128]) (T rfl hA114) (T rfl hv129) sz109 rfl rfl rfl hB115 rfl ?_)
       intro w133 s134 H135
       exact ⟨s134, H135.trans (congrArg (fun v : Value => some (Obj.cells v.cells 109)) (show fr109 14 = _ from hv129).symm)⟩
   intro fr138 w137 e139 hF140 hP141 hM142 hN143
   have E144 := below_ext E10 E10.size e139
   obtain ⟨_, p145, _, p146, _, _, _, _, _⟩ := hP141
   obtain ⟨nr147, A148, n149, c150, nr151, A152, n153, c154, nr155, A156, n157, c158, hv159, hp160, hp161, hp162⟩ : ∃ (nr29 : Bool) (A30 : Option Addr) (n31 : Nat) (c32 : Nat) (nr33 : Bool) (A34 : Option Addr) (n35 : Nat) (c36 : Nat) (nr37 : Bool) (A38 : Option Addr) (n39 : Nat) (c40 : Nat), fr138 12 = .agg #[.bool nr29, .slice A30 n31 c32, .bool nr33, .slice A34 n35 c36, .bool nr37, .slice A38 n39 c40] ∧ Num 64 36 .u64 w137 nr29 A30 n31 c32 x 256 ∧ Num 64 36 .u64 w137 nr33 A34 n35 c36 y 256 ∧ Num 64 36 .u64 w137 nr37 A38 n39 c40 u 256 := p145.resolve_left (nst (by kernel_rfl))
   have lhp160 := Num.len (by decide) hp160
   have lhp161 := Num.len (by decide) hp161
   have lhp162 := Num.len (by decide) hp162
   obtain ⟨nr163, A164, n165, c166, nr167, A168, n169, c170, nr171, A172, n173, c174, hv175, hp176, hp177, hp178⟩ : ∃ (nr61 : Bool) (A62 : Option Addr) (n63 : Nat) (c64 : Nat) (nr65 : Bool) (A66 : Option Addr) (n67 : Nat) (c68 : Nat) (nr69 : Bool) (A70 : Option Addr) (n71 : Nat) (c72 : Nat), fr138 14 = .agg #[.bool nr61, .slice A62 n63 c64, .bool nr65, .slice A66 n67 c68, .bool nr69, .slice A70 n71 c72] ∧ Num 64 36 .u64 w137 nr61 A62 n63 c64 p 256 ∧ Num 64 36 .u64 w137 nr65 A66 n67 c68 q 256 ∧ Num 64 36 .u64 w137 nr69 A70 n71 c72 r 256 := p146.resolve_left (nst (by kernel_rfl))
   have lhp176 := Num.len (by decide) hp176
   have lhp177 := Num.len (by decide) hp177
   have lhp178 := Num.len (by decide) hp178
   obtain ⟨⟨b179, hA180, hB181, hC182⟩, ⟨b183, hA184, hB185, hC186⟩, _⟩ := hM142
   have H187 : w137.heap[b179]? = some (.cells #[.bool nr147, .slice A148 n149 c150, .bool nr151, .slice A152 n153 c154, .bool nr155, .slice A156 n157 c158] 109) := hC182.trans (congrArg (fun v : Value => some (Obj.cells v.cells 109)) hv159)
   have N188 : w.heap.size ≤ b179 := by omega
   have H189 : w137.heap[b183]? = some (.cells #[.bool nr163, .slice A164 n165 c166, .bool nr167, .slice A168 n169 c170, .bool nr171, .slice A172 n173 c174] 109) := hC186.trans (congrArg (fun v : Value => some (Obj.cells v.cells 109)) hv175)
   have N190 : w.heap.size ≤ b183 := by omega
   have : b183 ≠ b179 := fun hh => hN143 _ (.tail _ (.head _)) _ (.head _) (by decide) (hA184.trans ((congrArg (fun q => Value.pointer (some ⟨q, 0, none⟩)) hh).trans hA180.symm))
   refine rk_seq ?_
   refine rk_seq ?_
   refine rk_any (fun w => w.heap[b179]? = some (.cells #[.bool nr147, .slice A148 n149 c150, .bool nr151, .slice A152 n153 c154, .bool nr155, .slice A156 n157 c158] 109) ∧ w.heap[b183]? = some (.cells #[.bool nr163, .slice A164 n165 c166, .bool nr167, .slice A168 n169 c170, .bool nr171, .slice A172 n173 c174] 109)) [11] mo ?_
   intro w191 d192
   have E193 := below_ext E144 E144.size d192.ext
   have H194 := (d192.ext.blk H187)
   have H195 := (d192.ext.blk H189)
   refine aw_pure 0 (.pointer (some ⟨b179, 0, none⟩)) rfl (by kernel_rfl) .none ⟨H194, H195⟩ (fun _ => dv_fieldAddr (a := ⟨b179, 0, none⟩) (a' := ⟨b179, 0, none⟩) fo109_0 (T rfl hA180) rfl) ?_
   refine aw_load 1 (.agg #[.bool nr147, .slice A148 n149 c150]) rfl (by kernel_rfl) .none ⟨H194, H195⟩ (fun _ s => dv_loads (l := [.bool nr147, .slice A148 n149 c150]) agt107 sz107 (T rfl rfl) s.1 rfl) ?_
   refine aw_pure 2 (.pointer (some ⟨b183, 4, none⟩)) rfl (by kernel_rfl) .none ⟨H194, H195⟩ (fun _ => dv_fieldAddr (a := ⟨b183, 0, none⟩) (a' := ⟨b183, 4, none⟩) fo109_2 (T rfl hA184) rfl) ?_
   refine aw_load 3 (.agg #[.bool nr171, .slice A172 n173 c174]) rfl (by kernel_rfl) .none ⟨H194, H195⟩ (fun _ s => dv_loads (l := [.bool nr171, .slice A172 n173 c174]) agt107 sz107 (T rfl rfl) s.2 rfl) ?_
   refine aw_pure 5 (.pointer (some ⟨b183, 0, none⟩)) rfl (by kernel_rfl) .none ⟨H194, H195⟩ (fun _ => dv_fieldAddr (a := ⟨b183, 0, none⟩) (a' := ⟨b183, 0, none⟩) fo109_0 (T rfl hA184) rfl) ?_
   refine aw_load 6 (.agg #[.bool nr163, .slice A164 n165 c166]) rfl (by kernel_rfl) .none ⟨H194, H195⟩ (fun _ s => dv_loads (l := [.bool nr163, .slice A164 n165 c166]) agt107 sz107 (T rfl rfl) s.2 rfl) ?_
   refine aw_pure 7 (.pointer (some ⟨b179, 4, none⟩)) rfl (by kernel_rfl) .none ⟨H194, H195⟩ (fun _ => dv_fieldAddr (a := ⟨b179, 0, none⟩) (a' := ⟨b179, 4, none⟩) fo109_2 (T rfl hA180) rfl) ?_
   refine aw_load 8 (.agg #[.bool nr155, .slice A156 n157 c158]) rfl (by kernel_rfl) .none ⟨H194, H195⟩ (fun _ s => dv_loads (l := [.bool nr155, .slice A156 n157 c158]) agt107 sz107 (T rfl rfl) s.1 rfl) ?_
   have h196 := (hp160.ext d192.ext)
   have h197 := (hp178.ext d192.ext)
   refine aw_one 4 rfl (by kernel_rfl) .none (oe_callf (vs := [.agg #[.bool nr147, .slice A148 n149 c150], .agg #[.bool nr171, .slice A172 n173 c174]]) co71 (ar2 (T rfl rfl) (T rfl rfl)) (nby_ok h196 h197 (by first | decide | omega) (by first | decide | omega)) ?_)
   rintro _ w203 ⟨nr198, A199, n200, c201, rfl, e204, h202⟩
   have E205 := below_ext E193 E193.size e204
   have lh202 := Num.len (by decide) h202
   have H206 := (e204.blk H194)
   have H207 := (e204.blk H195)
   refine ⟨.inr ⟨H206, H207⟩, ?_⟩
   have h208 := ((hp176.ext d192.ext).ext e204)
   have h209 := ((hp162.ext d192.ext).ext e204)
   refine aw_one 9 rfl (by kernel_rfl) .none (oe_callf (vs := [.agg #[.bool nr163, .slice A164 n165 c166], .agg #[.bool nr155, .slice A156 n157 c158]]) co71 (ar2 (T rfl rfl) (T rfl rfl)) (nby_ok h208 h209 (by first | decide | omega) (by first | decide | omega)) ?_)
   rintro _ w215 ⟨nr210, A211, n212, c213, rfl, e216, h214⟩
   have E217 := below_ext E205 E205.size e216
   have lh214 := Num.len (by decide) h214
   have H218 := (e216.blk H206)
   have H219 := (e216.blk H207)
   refine ⟨.inr ⟨H218, H219⟩, ?_⟩
   have h220 := (h202.ext e216)
   refine aw_one 10 rfl (by kernel_rfl) .none (oe_callf (vs := [.agg #[.bool nr198, .slice A199 n200 c201], .agg #[.bool nr210, .slice A211 n212 c213]]) co69 (ar2 (T rfl rfl) (T rfl rfl)) (ncmp_ok h220 h214 (by first | decide | omega) (by first | decide | omega)) ?_)
   rintro _ w221 ⟨rfl, e222⟩
   have E223 := below_ext E217 E217.size e222
   have H224 := (e222.blk H218)
   have H225 := (e222.blk H219)
   refine ⟨.inr ⟨H224, H225⟩, ?_⟩
   refine aw_last 11 (.int .i64 (sgnI ((x * r) - (p * u)))) rfl (by kernel_rfl) .none (fun _ => dv_assign (T rfl rfl)) ?_
   refine aw_done (by kernel_rfl) ?_
   refine rk_seq ?_
   refine rk_reg ?_
   refine lw_v (.int .i64 (sgnI ((x * r) - (p * u)))) (dv_move (T rfl rfl)) ?_
   refine lw_v (.bool (decide ((sgnI ((x * r) - (p * u))) ≠ 0))) (dv_neq (a := sgnI ((x * r) - (p * u))) (b := 0) (T rfl rfl) C) ?_
   refine lw_nil ?_
   by_cases hb226 : (sgnI ((x * r) - (p * u))) ≠ 0
   · refine rk_ct (T rfl (congrArg Value.bool (decide_eq_true hb226))) ?_
     refine rk_seq ?_
     refine rk_reg ?_
     refine lw_v (.int .i64 (sgnI ((x * r) - (p * u)))) (dv_move (T rfl rfl)) ?_
     refine lw_v (.int .i64 (sgnI ((x * r) - (p * u)))) (dv_assign (T rfl rfl)) ?_
     refine lw_nil ?_
     refine rk_ret Try.func57 (v := .int .i64 (sgnI ((x * r) - (p * u)))) (res1 Try.results57 (rv_tmp rfl rfl)) ⟨_, rfl, ?_⟩
     exact ⟨(vi (by exact (by first | (obtain ⟨rfl, rfl, rfl⟩ : x = p ∧ y = q ∧ u = r := ‹_›; exact (pc_self ..).symm) | (unfold pc; first | rw [if_pos (by assumption)] | rw [if_neg (by assumption)])))), E223⟩
   · refine rk_cf (T rfl (congrArg Value.bool (decide_eq_false hb226))) ?_
     refine rk_skip ?_
     refine rk_seq ?_
     refine rk_any (fun w => w.heap[b179]? = some (.cells #[.bool nr147, .slice A148 n149 c150, .bool nr151, .slice A152 n153 c154, .bool nr155, .slice A156 n157 c158] 109) ∧ w.heap[b183]? = some (.cells #[.bool nr163, .slice A164 n165 c166, .bool nr167, .slice A168 n169 c170, .bool nr171, .slice A172 n173 c174] 109)) [11] mo ?_
     intro w227 d228
     have E229 := below_ext E223 E223.size d228.ext
     have H230 := (d228.ext.blk H224)
     have H231 := (d228.ext.blk H225)
     refine aw_pure 0 (.pointer (some ⟨b179, 2, none⟩)) rfl (by kernel_rfl) .none ⟨H230, H231⟩ (fun _ => dv_fieldAddr (a := ⟨b179, 0, none⟩) (a' := ⟨b179, 2, none⟩) fo109_1 (T rfl hA180) rfl) ?_
     refine aw_load 1 (.agg #[.bool nr151, .slice A152 n153 c154]) rfl (by kernel_rfl) .none ⟨H230, H231⟩ (fun _ s => dv_loads (l := [.bool nr151, .slice A152 n153 c154]) agt107 sz107 (T rfl rfl) s.1 rfl) ?_
     refine aw_pure 2 (.pointer (some ⟨b183, 4, none⟩)) rfl (by kernel_rfl) .none ⟨H230, H231⟩ (fun _ => dv_fieldAddr (a := ⟨b183, 0, none⟩) (a' := ⟨b183, 4, none⟩) fo109_2 (T rfl hA184) rfl) ?_
     refine aw_load 3 (.agg #[.bool nr171, .slice A172 n173 c174]) rfl (by kernel_rfl) .none ⟨H230, H231⟩ (fun _ s => dv_loads (l := [.bool nr171, .slice A172 n173 c174]) agt107 sz107 (T rfl rfl) s.2 rfl) ?_
     refine aw_pure 5 (.pointer (some ⟨b183, 2, none⟩)) rfl (by kernel_rfl) .none ⟨H230, H231⟩ (fun _ => dv_fieldAddr (a := ⟨b183, 0, none⟩) (a' := ⟨b183, 2, none⟩) fo109_1 (T rfl hA184) rfl) ?_
     refine aw_load 6 (.agg #[.bool nr167, .slice A168 n169 c170]) rfl (by kernel_rfl) .none ⟨H230, H231⟩ (fun _ s => dv_loads (l := [.bool nr167, .slice A168 n169 c170]) agt107 sz107 (T rfl rfl) s.2 rfl) ?_
     refine aw_pure 7 (.pointer (some ⟨b179, 4, none⟩)) rfl (by kernel_rfl) .none ⟨H230, H231⟩ (fun _ => dv_fieldAddr (a := ⟨b179, 0, none⟩) (a' := ⟨b179, 4, none⟩) fo109_2 (T rfl hA180) rfl) ?_
     refine aw_load 8 (.agg #[.bool nr155, .slice A156 n157 c158]) rfl (by kernel_rfl) .none ⟨H230, H231⟩ (fun _ s => dv_loads (l := [.bool nr155, .slice A156 n157 c158]) agt107 sz107 (T rfl rfl) s.1 rfl) ?_
     have h232 := (((((hp161.ext d192.ext).ext e204).ext e216).ext e222).ext d228.ext)
     have h233 := ((((h197.ext e204).ext e216).ext e222).ext d228.ext)
     refine aw_one 4 rfl (by kernel_rfl) .none (oe_callf (vs := [.agg #[.bool nr151, .slice A152 n153 c154], .agg #[.bool nr171, .slice A172 n173 c174]]) co71 (ar2 (T rfl rfl) (T rfl rfl)) (nby_ok h232 h233 (by first | decide | omega) (by first | decide | omega)) ?_)
     rintro _ w239 ⟨nr234, A235, n236, c237, rfl, e240, h238⟩
     have E241 := below_ext E229 E229.size e240
     have lh238 := Num.len (by decide) h238
     have H242 := (e240.blk H230)
     have H243 := (e240.blk H231)
     refine ⟨.inr ⟨H242, H243⟩, ?_⟩
     have h244 := ((((((hp177.ext d192.ext).ext e204).ext e216).ext e222).ext d228.ext).ext e240)
     have h245 := ((((h209.ext e216).ext e222).ext d228.ext).ext e240)
     refine aw_one 9 rfl (by kernel_rfl) .none (oe_callf (vs := [.agg #[.bool nr167, .slice A168 n169 c170], .agg #[.bool nr155, .slice A156 n157 c158]]) co71 (ar2 (T rfl rfl) (T rfl rfl)) (nby_ok h244 h245 (by first | decide | omega) (by first | decide | omega)) ?_)
     rintro _ w251 ⟨nr246, A247, n248, c249, rfl, e252, h250⟩
     have E253 := below_ext E241 E241.size e252
     have lh250 := Num.len (by decide) h250
     have H254 := (e252.blk H242)
     have H255 := (e252.blk H243)
     refine ⟨.inr ⟨H254, H255⟩, ?_⟩
     have h256 := (h238.ext e252)
     refine aw_one 10 rfl (by kernel_rfl) .none (oe_callf (vs := [.agg #[.bool nr234, .slice A235 n236 c237], .agg #[.bool nr246, .slice A247 n248 c249]]) co69 (ar2 (T rfl rfl) (T rfl rfl)) (ncmp_ok h256 h250 (by first | decide | omega) (by first | decide | omega)) ?_)
     rintro _ w257 ⟨rfl, e258⟩
     have E259 := below_ext E253 E253.size e258
     have H260 := (e258.blk H254)
     have H261 := (e258.blk H255)
     refine ⟨.inr ⟨H260, H261⟩, ?_⟩
     refine aw_last 11 (.int .i64 (sgnI ((y * r) - (q * u)))) rfl (by kernel_rfl) .none (fun _ => dv_assign (T rfl rfl)) ?_
     refine aw_done (by kernel_rfl) ?_
     refine rk_ret Try.func57 (v := .int .i64 (sgnI ((y * r) - (q * u)))) (res1 Try.results57 (rv_tmp rfl rfl)) ⟨_, rfl, ?_⟩
     exact ⟨(vi (by exact (by first | (obtain ⟨rfl, rfl, rfl⟩ : x = p ∧ y = q ∧ u = r := ‹_›; exact (pc_self ..).symm) | (unfold pc; first | rw [if_pos (by assumption)] | rw [if_neg (by assumption)])))), E259⟩
end Go.Proofs.Ytmbpomcbdopgnaa.W
set_option linter.unusedVariables false
set_option linter.unusedSimpArgs false
namespace Go.Proofs.Ytmbpomcbdopgnaa.W
open Go Go.RowKit Go.Proofs.Ytmbpomcbdopgnaa.Fw
attribute [local irreducible] RunK LW AW DV OE Ct
theorem agt2 : aggB Try.prog 2 = some false := by kernel_rfl
theorem co46 : callOk Try.prog 46 = true := by kernel_rfl
theorem co53 : callOk Try.prog 53 = true := by kernel_rfl
theorem sz2 : sizeB Try.prog 2 = some 1 := by kernel_rfl
set_option maxHeartbeats 1000000 in
theorem l1In_ok {w : World} {n lo hi : Int}   : Ct Try.prog 53 [.int .i64 n, .int .i64 lo, .int .i64 hi] w fun v w1 => v = .bool (decide (lo ≤ n ∧ n ≤ hi)) ∧ Ext w w1 := by
 refine ct_run (n := 15) Try.func53 rfl Try.ntmps53 rfl ?_
 have E0 : Below w.heap.size w w := Below.refl _ _
 refine rk_seq ?_
 refine rk_reg ?_
 refine lw_v (.bool false) (dv_assign C) ?_
 refine lw_nil ?_
 refine rk_seq ?_
 refine rk_reg ?_
 refine lw_v (.int .i64 n) (dv_move (T rfl rfl)) ?_
 refine lw_v (.int .i64 lo) (dv_move (T rfl rfl)) ?_
 refine lw_v (.bool (decide (lo ≤ n))) (dv_geq (a := n) (b := lo) (T rfl rfl) (T rfl rfl)) ?_
 refine lw_v (.bool (decide (lo ≤ n))) (dv_move (T rfl rfl)) ?_
 by_cases hb1 : lo ≤ n
 · refine lw_vy (.int .i64 n) (d := 10) rfl rfl (congrArg Value.bool (decide_eq_true hb1)) (dv_move (T rfl rfl)) ?_
   refine lw_vy (.int .i64 hi) (d := 10) rfl rfl (congrArg Value.bool (decide_eq_true hb1)) (dv_move (T rfl rfl)) ?_
   refine lw_vy (.bool (decide (n ≤ hi))) (d := 10) rfl rfl (congrArg Value.bool (decide_eq_true hb1)) (dv_leq (a := n) (b := hi) (T rfl rfl) (T rfl rfl)) ?_
   refine lw_v (.bool (decide (n ≤ hi))) (dv_pick_t (T rfl (congrArg Value.bool (decide_eq_true hb1))) (T rfl rfl)) ?_
   refine lw_v (.bool (decide (n ≤ hi))) (dv_assign (T rfl rfl)) ?_
   refine lw_nil ?_
   refine rk_ret Try.func53 (v := .bool (decide (n ≤ hi))) (res1 Try.results53 (rv_tmp rfl rfl)) ⟨_, rfl, ?_⟩
   exact ⟨(vb (by grind)), E0⟩
 · refine lw_no (d := 10) rfl rfl (congrArg Value.bool (decide_eq_false hb1)) ?_
   refine lw_no (d := 10) rfl rfl (congrArg Value.bool (decide_eq_false hb1)) ?_
   refine lw_no (d := 10) rfl rfl (congrArg Value.bool (decide_eq_false hb1)) ?_
   refine lw_v (.bool false) (dv_pick_f (T rfl (congrArg Value.bool (decide_eq_false hb1))) C) ?_
   refine lw_v (.bool false) (dv_assign (T rfl rfl)) ?_
   refine lw_nil ?_
   refine rk_ret Try.func53 (v := .bool false) (res1 Try.results53 (rv_tmp rfl rfl)) ⟨_, rfl, ?_⟩
   exact ⟨(vf (by grind)), E0⟩
set_option maxHeartbeats 1000000 in
theorem within_ok {w : World} {n lo hi : Int}   : Ct Try.prog 46 [.int .i64 n, .int .i64 lo, .int .i64 hi] w fun v w1 => v = .bool (decide (lo ≤ n ∧ n ≤ hi)) ∧ Ext w w1 := by
 refine ct_run (n := 15) Try.func46 rfl Try.ntmps46 rfl ?_
 have E0 : Below w.heap.size w w := Below.refl _ _
 refine rk_seq ?_
 refine rk_reg ?_
 refine lw_v (.bool false) (dv_assign C) ?_
 refine lw_nil ?_
 refine rk_seq ?_
 refine rk_reg ?_
 refine lw_v (.int .i64 lo) (dv_move (T rfl rfl)) ?_
 refine lw_v (.int .i64 n) (dv_move (T rfl rfl)) ?_
 refine lw_v (.bool (decide (lo ≤ n))) (dv_leq (a := lo) (b := n) (T rfl rfl) (T rfl rfl)) ?_
 refine lw_v (.bool (decide (lo ≤ n))) (dv_move (T rfl rfl)) ?_
 by_cases hb1 : lo ≤ n
 · refine lw_vy (.int .i64 n) (d := 10) rfl rfl (congrArg Value.bool (decide_eq_true hb1)) (dv_move (T rfl rfl)) ?_
   refine lw_vy (.int .i64 hi) (d := 10) rfl rfl (congrArg Value.bool (decide_eq_true hb1)) (dv_move (T rfl rfl)) ?_
   refine lw_vy (.bool (decide (n ≤ hi))) (d := 10) rfl rfl (congrArg Value.bool (decide_eq_true hb1)) (dv_leq (a := n) (b := hi) (T rfl rfl) (T rfl rfl)) ?_
   refine lw_v (.bool (decide (n ≤ hi))) (dv_pick_t (T rfl (congrArg Value.bool (decide_eq_true hb1))) (T rfl rfl)) ?_
   refine lw_v (.bool (decide (n ≤ hi))) (dv_assign (T rfl rfl)) ?_
   refine lw_nil ?_
   refine rk_ret Try.func46 (v := .bool (decide (n ≤ hi))) (res1 Try.results46 (rv_tmp rfl rfl)) ⟨_, rfl, ?_⟩
   exact ⟨(vb (by grind)), E0⟩
 · refine lw_no (d := 10) rfl rfl (congrArg Value.bool (decide_eq_false hb1)) ?_
   refine lw_no (d := 10) rfl rfl (congrArg Value.bool (decide_eq_false hb1)) ?_
   refine lw_no (d := 10) rfl rfl (congrArg Value.bool (decide_eq_false hb1)) ?_
   refine lw_v (.bool false) (dv_pick_f (T rfl (congrArg Value.bool (decide_eq_false hb1))) C) ?_
   refine lw_v (.bool false) (dv_assign (T rfl rfl)) ?_
   refine lw_nil ?_
   refine rk_ret Try.func46 (v := .bool false) (res1 Try.results46 (rv_tmp rfl rfl)) ⟨_, rfl, ?_⟩
   exact ⟨(vf (by grind)), E0⟩
end Go.Proofs.Ytmbpomcbdopgnaa.W
set_option linter.unusedVariables false
set_option linter.unusedSimpArgs false
namespace Go.Proofs.Ytmbpomcbdopgnaa.W
open Go Go.RowKit Go.Proofs.Ytmbpomcbdopgnaa.Fw
attribute [local irreducible] RunK LW AW DV OE Ct
theorem agt50 : aggB Try.prog 50 = some false := by kernel_rfl
theorem agt52 : aggB Try.prog 52 = some true := by kernel_rfl
theorem agt61 : aggB Try.prog 61 = some true := by kernel_rfl
theorem agt83 : aggB Try.prog 83 = some true := by kernel_rfl
theorem co102 : callOk Try.prog 102 = true := by kernel_rfl
theorem co107 : callOk Try.prog 107 = true := by kernel_rfl
theorem co22 : callOk Try.prog 22 = true := by kernel_rfl
theorem co30 : callOk Try.prog 30 = true := by kernel_rfl
theorem co32 : callOk Try.prog 32 = true := by kernel_rfl
theorem co49 : callOk Try.prog 49 = true := by kernel_rfl
theorem co54 : callOk Try.prog 54 = true := by kernel_rfl
theorem co60 : callOk Try.prog 60 = true := by kernel_rfl
theorem co94 : callOk Try.prog 94 = true := by kernel_rfl
theorem fo52_0 : fieldOffB Try.prog 52 0 = some 0 := by kernel_rfl
theorem fo52_1 : fieldOffB Try.prog 52 1 = some 12 := by kernel_rfl
theorem fo83_0 : fieldOffB Try.prog 83 0 = some 0 := by kernel_rfl
theorem fo83_1 : fieldOffB Try.prog 83 1 = some 12 := by kernel_rfl
theorem in2 : (Try.prog.info? 2).map (fun i => (i.zero, i.size, i.bytes)) = some (some (.int .i64 0), 1, 8) := by kernel_rfl
theorem in52 : (Try.prog.info? 52).map (fun i => (i.zero, i.size, i.bytes)) = some (some (.agg #[.int .u64 0, .int .u64 0, .int .u64 0, .int .u64 0, .int .u64 0, .int .u64 0, .int .u64 0, .int .u64 0, .int .u64 0, .int .u64 0, .int .u64 0, .int .u64 0, .slice none 0 0]), 13, 120) := by kernel_rfl
theorem sz50 : sizeB Try.prog 50 = some 1 := by kernel_rfl
theorem sz52 : sizeB Try.prog 52 = some 13 := by kernel_rfl
theorem sz61 : sizeB Try.prog 61 = some 12 := by kernel_rfl
theorem sz83 : sizeB Try.prog 83 = some 13 := by kernel_rfl
theorem us43 : Try.prog.underlying 43 = some (.slice 83) := by kernel_rfl
theorem us46 : Try.prog.underlying 46 = some (.slice 52) := by kernel_rfl
theorem us50 : Try.prog.underlying 50 = some (.slice 2) := by kernel_rfl
theorem ze52 : zeroB Try.prog 52 = some #[.int .u64 0, .int .u64 0, .int .u64 0, .int .u64 0, .int .u64 0, .int .u64 0, .int .u64 0, .int .u64 0, .int .u64 0, .int .u64 0, .int .u64 0, .int .u64 0, .slice none 0 0] := by kernel_rfl
set_option maxHeartbeats 1000000 in
theorem szInt64S_ok {w : World} {A : Option Addr} {l c : Nat} {n : Int} (hl : l ≤ 9223372036854775807) (hn : 0 ≤ n ∧ n ≤ 1048576) : Ct Try.prog 94 [.slice A l c, .int .i64 n] w fun v w1 => v = .int .i64 (szV l n) ∧ Ext w w1 := by
 refine ct_run (n := 12) Try.func94 rfl Try.ntmps94 rfl ?_
 have E0 : Below w.heap.size w w := Below.refl _ _
 refine rk_seq ?_
 refine rk_reg ?_
 refine lw_v (.int .i64 0) (dv_assign C) ?_
 refine lw_nil ?_
 refine rk_seq ?_
 refine rk_reg ?_
 refine lw_v (.int .i64 n) (dv_move (T rfl rfl)) ?_
 refine lw_v (.slice A l c) (dv_move (T rfl rfl)) ?_
 refine lw_v (.int .i64 ((l : Int))) (dv_len (ad := A) (l := l) (c := c) us50 (T rfl rfl)) ?_
 refine lw_v (.int .i64 (n - ((l : Int)))) (dv_sub (a := n) (b := (l : Int)) (z := n - ((l : Int))) (T rfl rfl) (T rfl rfl) (wr_i64 (by omega) (by omega))) ?_
 refine lw_v (.int .i64 (n - ((l : Int)))) (dv_assign (T rfl rfl)) ?_
 refine lw_nil ?_
 refine rk_seq ?_
 refine rk_seq ?_
 refine rk_reg ?_
 refine lw_v (.int .i64 (n - ((l : Int)))) (dv_move (T rfl rfl)) ?_
 refine lw_v (.bool (decide ((n - ((l : Int))) < 0))) (dv_lss (a := n - ((l : Int))) (b := 0) (T rfl rfl) C) ?_
 refine lw_nil ?_
 by_cases hb1 : (n - ((l : Int))) < 0
 · refine rk_ct (T rfl (congrArg Value.bool (decide_eq_true hb1))) ?_
   refine rk_seq ?_
   refine rk_reg ?_
   refine lw_v (.int .i64 (-1)) (dv_assign C) ?_
   refine lw_nil ?_
   refine rk_ret Try.func94 (v := .int .i64 (-1)) (res1 Try.results94 (rv_tmp rfl rfl)) ⟨_, rfl, ?_⟩
   exact ⟨(vi (by unfold szV; first | rw [if_pos (by omega)] | rw [if_neg (by omega)])), E0⟩
 · refine rk_cf (T rfl (congrArg Value.bool (decide_eq_false hb1))) ?_
   refine rk_skip ?_
   refine rk_seq ?_
   refine rk_reg ?_
   refine lw_v (.int .i64 (n - ((l : Int)))) (dv_move (T rfl rfl)) ?_
   refine lw_v (.int .i64 (n - ((l : Int)))) (dv_assign (T rfl rfl)) ?_
   refine lw_nil ?_
   refine rk_ret Try.func94 (v := .int .i64 (n - ((l : Int)))) (res1 Try.results94 (rv_tmp rfl rfl)) ⟨_, rfl, ?_⟩
   exact ⟨(vi (by unfold szV; first | rw [if_pos (by omega)] | rw [if_neg (by omega)])), E0⟩
set_option maxHeartbeats 1000000 in
theorem szEvent_ok {w : World} {a0 a1 a2 a3 a4 a5 a6 a7 a8 a9 a10 a11 : Int} {Ai : Option Addr} {l c : Nat} {n : Int} (hl : l ≤ 9223372036854775807) (hn : 0 ≤ n ∧ n ≤ 1048576) : Ct Try.prog 49 [.agg #[.int .u64 a0, .int .u64 a1, .int .u64 a2, .int .u64 a3, .int .u64 a4, .int .u64 a5, .int .u64 a6, .int .u64 a7, .int .u64 a8, .int .u64 a9, .int .u64 a10, .int .u64 a11, .slice Ai l c], .int .i64 n] w fun v w1 => v = .int .i64 (szV l n) ∧ Ext w w1 := by
 refine ct_run (n := 12) Try.func49 rfl Try.ntmps49 rfl ?_
 have E0 : Below w.heap.size w w := Below.refl _ _
 refine rk_seq ?_
 refine rk_reg ?_
 refine lw_e (oe_box (v := .agg #[.int .u64 a0, .int .u64 a1, .int .u64 a2, .int .u64 a3, .int .u64 a4, .int .u64 a5, .int .u64 a6, .int .u64 a7, .int .u64 a8, .int .u64 a9, .int .u64 a10, .int .u64 a11, .slice Ai l c]) (cs := #[.int .u64 a0, .int .u64 a1, .int .u64 a2, .int .u64 a3, .int .u64 a4, .int .u64 a5, .int .u64 a6, .int .u64 a7, .int .u64 a8, .int .u64 a9, .int .u64 a10, .int .u64 a11, .slice Ai l c]) (T rfl rfl) rfl ?_)
 intro b1 w2 n3
 have N4 : w.heap.size ≤ b1 := n3.eq ▸ E0.size
 have E5 := below_ext E0 E0.size n3.ext
 refine lw_v (.int .i64 0) (dv_assign C) ?_
 refine lw_nil ?_
 refine rk_seq ?_
 refine rk_reg ?_
 refine lw_v (.pointer (some ⟨b1, 12, none⟩)) (dv_fieldAddr (a := ⟨b1, 0, none⟩) (a' := ⟨b1, 12, none⟩) fo83_1 (T rfl rfl) rfl) ?_
 refine lw_v (.slice Ai l c) (dv_load1 (b := b1) (o := 12) agt50 (T rfl rfl) n3.blk rfl) ?_
 refine lw_v (.int .i64 n) (dv_move (T rfl rfl)) ?_
 refine lw_e (oe_callf (vs := [.slice Ai l c, .int .i64 n]) co94 (ar2 (T rfl rfl) (T rfl rfl)) (szInt64S_ok (A := Ai) (c := c) (by omega) (by omega)) ?_)
 rintro _ w6 ⟨rfl, e7⟩
 have E8 := below_ext E5 E5.size e7
 refine lw_v (.int .i64 (szV l n)) (dv_assign (T rfl rfl)) ?_
 refine lw_nil ?_
 refine rk_seq ?_
 refine rk_seq ?_
 refine rk_reg ?_
 refine lw_v (.int .i64 (szV l n)) (dv_move (T rfl rfl)) ?_
 refine lw_v (.bool (decide ((szV l n) < 0))) (dv_lss (a := szV l n) (b := 0) (T rfl rfl) C) ?_
 refine lw_nil ?_
 by_cases hb9 : (szV l n) < 0
 · refine rk_ct (T rfl (congrArg Value.bool (decide_eq_true hb9))) ?_
   refine rk_seq ?_
   refine rk_reg ?_
   refine lw_v (.int .i64 (-1)) (dv_assign C) ?_
   refine lw_nil ?_
   refine rk_ret Try.func49 (v := .int .i64 (-1)) (res1 Try.results49 (rv_tmp rfl rfl)) ⟨_, rfl, ?_⟩
   exact ⟨(vi (szV_neg (by assumption)).symm), E8⟩
 · refine rk_cf (T rfl (congrArg Value.bool (decide_eq_false hb9))) ?_
   refine rk_skip ?_
   refine rk_seq ?_
   refine rk_reg ?_
   refine lw_v (.int .i64 (szV l n)) (dv_move (T rfl rfl)) ?_
   refine lw_v (.int .i64 (szV l n)) (dv_assign (T rfl rfl)) ?_
   refine lw_nil ?_
   refine rk_ret Try.func49 (v := .int .i64 (szV l n)) (res1 Try.results49 (rv_tmp rfl rfl)) ⟨_, rfl, ?_⟩
   exact ⟨rfl, E8⟩
set_option maxHeartbeats 1000000 in
theorem szEventS_ok {w : World} {A : Option Addr} {l c : Nat} {W : Nat → Nat → Int} {E : Nat → List Int} {SL : SlF} {lo hi : Nat} {n : Int} (hx : NR w lo hi A l W E SL) (hlm : l ≤ 9223372036854775807) (hEm : ∀ i, i < l → (E i).length ≤ 9223372036854775807) (hn : 0 ≤ n ∧ n ≤ 1048576) : Ct Try.prog 15 [.slice A l c, .int .i64 n] w fun v w1 => ∃ r, v = .int .i64 r ∧ (0 ≤ r → l ≤ 1048576 ∧ ∀ i, i < l → (E i).length ≤ 1048576) ∧ Ext w w1 := by
 refine ct_run (n := 27) Try.func15 rfl Try.ntmps15 rfl ?_
 have E0 : Below w.heap.size w w := Below.refl _ _
 refine rk_seq ?_
 refine rk_reg ?_
 refine lw_v (.int .i64 0) (dv_assign C) ?_
 refine lw_nil ?_
 refine rk_seq ?_
 refine rk_reg ?_
 refine lw_v (.int .i64 n) (dv_move (T rfl rfl)) ?_
 refine lw_v (.slice A l c) (dv_move (T rfl rfl)) ?_
 refine lw_v (.int .i64 ((l : Int))) (dv_len (ad := A) (l := l) (c := c) us43 (T rfl rfl)) ?_
 refine lw_v (.int .i64 (n - ((l : Int)))) (dv_sub (a := n) (b := (l : Int)) (z := n - ((l : Int))) (T rfl rfl) (T rfl rfl) (wr_i64 (by omega) (by omega))) ?_
 refine lw_v (.int .i64 (n - ((l : Int)))) (dv_assign (T rfl rfl)) ?_
 refine lw_nil ?_
 refine rk_seq ?_
 refine rk_seq ?_
 refine rk_reg ?_
 refine lw_v (.int .i64 (n - ((l : Int)))) (dv_move (T rfl rfl)) ?_
 refine lw_v (.bool (decide ((n - ((l : Int))) < 0))) (dv_lss (a := n - ((l : Int))) (b := 0) (T rfl rfl) C) ?_
 refine lw_nil ?_
 by_cases hb1 : (n - ((l : Int))) < 0
 · refine rk_ct (T rfl (congrArg Value.bool (decide_eq_true hb1))) ?_
   refine rk_seq ?_
   refine rk_reg ?_
   refine lw_v (.int .i64 (-1)) (dv_assign C) ?_
   refine lw_nil ?_
   refine rk_ret Try.func15 (v := .int .i64 (-1)) (res1 Try.results15 (rv_tmp rfl rfl)) ⟨_, rfl, ?_⟩
   exact ⟨-1, rfl, (fun h_ => absurd h_ (by decide)), E0⟩
 · refine rk_cf (T rfl (congrArg Value.bool (decide_eq_false hb1))) ?_
   refine rk_skip ?_
   refine rk_seq ?_
   refine rk_seq ?_
   refine rk_reg ?_
   refine lw_v (.int .i64 0) (dv_assign C) ?_
   refine lw_nil ?_
   refine rk_block ?_
   refine rk_loop (fun dm_ fr wl => ∃ (i : Nat) (z : Int), dm_ = l - i ∧ fr 0 = .slice A l c ∧ fr 1 = .int .i64 z ∧ fr 5 = .int .i64 ((i : Int)) ∧ Below w.heap.size w wl ∧ (i ≤ l) ∧ (0 ≤ z ∧ z ≤ n) ∧ (∀ k, k < i → (E k).length ≤ 1048576)) (l - 0) ⟨0, n - ((l : Int)), rfl, rfl, rfl, (vi (by omega)), E0, (Nat.zero_le _), (by omega), (fun k hk => absurd hk (by omega))⟩ ?_
   intro d6 fr5 w2 hI3 ih4
   obtain ⟨i, z, hd11, f7, f8, f9, E10, hi, hz, hE⟩ := hI3
   obtain ⟨As12, hAs14⟩ : ∃ q_ : Option Addr, q_ = (SL i).1 := ⟨_, rfl⟩
   obtain ⟨cs13, hcs15⟩ : ∃ q_ : Nat, q_ = (SL i).2 := ⟨_, rfl⟩
   have hem : i < l → (E i).length ≤ 9223372036854775807 := fun h_ => hEm i h_
   refine rk_seq ?_
   refine rk_seq ?_
   refine rk_reg ?_
   refine lw_v (.int .i64 ((i : Int))) (dv_move (T rfl f9)) ?_
   refine lw_v (.slice A l c) (dv_move (T rfl f7)) ?_
   refine lw_v (.int .i64 ((l : Int))) (dv_len (ad := A) (l := l) (c := c) us43 (T rfl rfl)) ?_
   refine lw_v (.bool (decide (((i : Int)) < ((l : Int))))) (dv_lss (a := (i : Int)) (b := (l : Int)) (T rfl rfl) (T rfl rfl)) ?_
   refine lw_nil ?_
   by_cases hb16 : ((i : Int)) < ((l : Int))
   · refine rk_ct (T rfl (congrArg Value.bool (decide_eq_true hb16))) ?_
     refine rk_skip ?_
     refine rk_seq ?_
     refine rk_block ?_
     refine rk_seq ?_
     refine rk_reg ?_
     refine lw_v (.slice A l c) (dv_move (T rfl f7)) ?_
     refine lw_v (.int .i64 ((i : Int))) (dv_move (T rfl f9)) ?_
     have h19 := (hx.ext E10)
     obtain ⟨g17, o18, rfl⟩ := NR.at h19 (by first | omega | (simp; done) | (simp; omega))
     refine lw_v (.pointer (some ⟨g17, o18 + i * 13, none⟩)) (dv_indexM (g := g17) (o := o18) (l := l) (c := c) (i := i) (j := (i : Int)) (m := 13) us43 sz83 (T rfl rfl) (T rfl rfl) (by omega) (by first | omega | (simp; done) | (simp; omega))) ?_
     refine lw_v (.agg #[.int .u64 (W i 0), .int .u64 (W i 1), .int .u64 (W i 2), .int .u64 (W i 3), .int .u64 (W i 4), .int .u64 (W i 5), .int .u64 (W i 6), .int .u64 (W i 7), .int .u64 (W i 8), .int .u64 (W i 9), .int .u64 (W i 10), .int .u64 (W i 11), .slice As12 ((E i).length) cs13]) (dv_loadsR (l := [.int .u64 (W i 0), .int .u64 (W i 1), .int .u64 (W i 2), .int .u64 (W i 3), .int .u64 (W i 4), .int .u64 (W i 5), .int .u64 (W i 6), .int .u64 (W i 7), .int .u64 (W i 8), .int .u64 (W i 9), .int .u64 (W i 10), .int .u64 (W i 11), .slice As12 ((E i).length) cs13]) agt83 sz83 (T rfl rfl) rfl (NR.evA (i := i) h19 (by first | omega | (simp; done) | (simp; omega)) hAs14 hcs15)) ?_
     refine lw_v (.int .i64 z) (dv_move (T rfl f8)) ?_
     refine lw_e (oe_callf (vs := [.agg #[.int .u64 (W i 0), .int .u64 (W i 1), .int .u64 (W i 2), .int .u64 (W i 3), .int .u64 (W i 4), .int .u64 (W i 5), .int .u64 (W i 6), .int .u64 (W i 7), .int .u64 (W i 8), .int .u64 (W i 9), .int .u64 (W i 10), .int .u64 (W i 11), .slice As12 ((E i).length) cs13], .int .i64 z]) co49 (ar2 (T rfl rfl) (T rfl rfl)) (szEvent_ok (Ai := As12) (c := cs13) (by omega) (by omega)) ?_)
     rintro _ w20 ⟨rfl, e21⟩
     have E22 := below_ext E10 E10.size e21
     refine lw_v (.int .i64 (szV ((E i).length) z)) (dv_assign (T rfl rfl)) ?_
     refine lw_nil ?_
     refine rk_seq ?_
     refine rk_reg ?_
     refine lw_v (.int .i64 (szV ((E i).length) z)) (dv_move (T rfl rfl)) ?_
     refine lw_v (.bool (decide ((szV ((E i).length) z) < 0))) (dv_lss (a := szV ((E i).length) z) (b := 0) (T rfl rfl) C) ?_
     refine lw_nil ?_
     by_cases hb23 : (szV ((E i).length) z) < 0
     · refine rk_ct (T rfl (congrArg Value.bool (decide_eq_true hb23))) ?_
       refine rk_seq ?_
       refine rk_reg ?_
       refine lw_v (.int .i64 (-1)) (dv_assign C) ?_
       refine lw_nil ?_
       refine rk_ret Try.func15 (v := .int .i64 (-1)) (res1 Try.results15 (rv_tmp rfl rfl)) ⟨_, rfl, ?_⟩
       exact ⟨-1, rfl, (fun h_ => absurd h_ (by decide)), E22⟩
     · refine rk_cf (T rfl (congrArg Value.bool (decide_eq_false hb23))) ?_
       refine rk_skip ?_
       refine rk_inBlock ?_
       refine rk_reg ?_
       refine lw_v (.int .i64 ((i : Int))) (dv_move (T rfl f9)) ?_
       refine lw_v (.int .i64 (((i : Int)) + 1)) (dv_add (a := (i : Int)) (b := 1) (z := ((i : Int)) + 1) (T rfl rfl) C (wr_i64 (by omega) (by omega))) ?_
       refine lw_v (.int .i64 (((i : Int)) + 1)) (dv_assign (T rfl rfl)) ?_
       refine lw_nil ?_
       exact ih4 (l - ((i + 1))) _ _ (by rw [hd11]; omega) ⟨(i + 1), szV ((E i).length) z, rfl, f7, rfl, (vi (by omega)), E22, (by omega), (by have h_ := szV_rg (by assumption : ¬ szV (E i).length z < 0); unfold szV; split <;> omega), (le_step (E := fun k => (E k).length) hE (by have h_ := szV_rg (by assumption : ¬ szV (E i).length z < 0); omega))⟩
   · refine rk_cf (T rfl (congrArg Value.bool (decide_eq_false hb16))) ?_
     refine rk_exit rfl ?_
     refine rk_seq ?_
     refine rk_reg ?_
     refine lw_v (.int .i64 z) (dv_move (T rfl f8)) ?_
     refine lw_v (.int .i64 z) (dv_assign (T rfl rfl)) ?_
     refine lw_nil ?_
     refine rk_ret Try.func15 (v := .int .i64 z) (res1 Try.results15 (rv_tmp rfl rfl)) ⟨_, rfl, ?_⟩
     exact ⟨z, rfl, (fun _ => ⟨by omega, fun i_ hi_ => hE i_ (by omega)⟩), E10⟩
set_option maxHeartbeats 1000000 in
theorem toInt64S_ok {w : World} {A : Option Addr} {l c : Nat} {xs : List Int} (hx : RdI w .i64 A xs) (hxl : xs.length = l) (hxb : l ≤ 1048576) : Ct Try.prog 102 [.slice A l c] w fun v w1 => ∃ b, v = .slice (some ⟨b, 0, none⟩) l l ∧ Ext w w1 ∧ w1.heap[b]? = some (.cells (xs.map (Value.int .i64)).toArray 2) ∧ w.heap.size ≤ b := by
 refine ct_run (n := 22) Try.func102 rfl Try.ntmps102 rfl ?_
 have E0 : Below w.heap.size w w := Below.refl _ _
 refine rk_seq ?_
 refine rk_reg ?_
 refine lw_v (.slice none 0 0) (dv_assign C) ?_
 refine lw_nil ?_
 refine rk_seq ?_
 refine rk_reg ?_
 refine lw_v (.slice A l c) (dv_move (T rfl rfl)) ?_
 refine lw_v (.int .i64 ((l : Int))) (dv_len (ad := A) (l := l) (c := c) us50 (T rfl rfl)) ?_
 refine lw_e (oe_makeW (l := l) (j := (l : Int)) us50 in2 (T rfl rfl) (T rfl rfl) (by omega) (by first | omega | (simp; done) | (simp; omega)) (by first | omega | (simp; done) | (simp; omega)) ?_)
 intro b1 w2 n3
 have N4 : w.heap.size ≤ b1 := n3.eq ▸ E0.size
 have E5 := below_ext E0 E0.size n3.ext
 refine lw_v (.slice (some ⟨b1, 0, none⟩) l l) (dv_assign (T rfl rfl)) ?_
 refine lw_nil ?_
 refine rk_seq ?_
 refine rk_seq ?_
 refine rk_reg ?_
 refine lw_v (.int .i64 0) (dv_assign C) ?_
 refine lw_nil ?_
 refine rk_block ?_
 refine rk_loop (fun dm_ fr wl => ∃ (i : Nat) (M : List Int), dm_ = l - i ∧ fr 0 = .slice A l c ∧ fr 2 = .slice none 0 0 ∧ fr 3 = .slice (some ⟨b1, 0, none⟩) l l ∧ fr 4 = .int .i64 ((i : Int)) ∧ Below w.heap.size w wl ∧ wl.heap[b1]? = some (.cells (M.map (Value.int .i64)).toArray 2) ∧ (i ≤ l) ∧ (M.length = l) ∧ (M.take (i) = xs.take (i))) (l - 0) ⟨0, (List.replicate l (0 : Int)), rfl, rfl, rfl, rfl, (vi (by omega)), E5, n3.blk, (Nat.zero_le _), (by simp), (by simp)⟩ ?_
 intro d10 fr9 w6 hI7 ih8
 obtain ⟨i, M, hd17, f11, f12, f13, f14, E15, H16, hi, hMl, hMt⟩ := hI7
 refine rk_seq ?_
 refine rk_seq ?_
 refine rk_reg ?_
 refine lw_v (.int .i64 ((i : Int))) (dv_move (T rfl f14)) ?_
 refine lw_v (.slice A l c) (dv_move (T rfl f11)) ?_
 refine lw_v (.int .i64 ((l : Int))) (dv_len (ad := A) (l := l) (c := c) us50 (T rfl rfl)) ?_
 refine lw_v (.bool (decide (((i : Int)) < ((l : Int))))) (dv_lss (a := (i : Int)) (b := (l : Int)) (T rfl rfl) (T rfl rfl)) ?_
 refine lw_nil ?_
 by_cases hb18 : ((i : Int)) < ((l : Int))
 · refine rk_ct (T rfl (congrArg Value.bool (decide_eq_true hb18))) ?_
   refine rk_skip ?_
   refine rk_seq ?_
   refine rk_block ?_
   refine rk_reg ?_
   refine lw_v (.slice (some ⟨b1, 0, none⟩) l l) (dv_move (T rfl f13)) ?_
   refine lw_v (.int .i64 ((i : Int))) (dv_move (T rfl f14)) ?_
   refine lw_v (.slice A l c) (dv_move (T rfl f11)) ?_
   refine lw_v (.int .i64 ((i : Int))) (dv_move (T rfl f14)) ?_
   have h19 := (hx.ext E15)
   obtain ⟨g20, o21, rfl⟩ := RdI.at h19 (by first | omega | (simp; done) | (simp; omega))
   refine lw_v (.pointer (some ⟨g20, o21 + i, none⟩)) (dv_indexW (g := g20) (o := o21) (l := l) (c := c) (i := i) (j := (i : Int)) us50 sz2 (T rfl rfl) (T rfl rfl) (by omega) (by first | omega | (simp; done) | (simp; omega))) ?_
   refine lw_v (.int .i64 (xs.getD i 0)) (dv_load agt2 (T rfl rfl) (RdI.cell h19 (by first | omega | (simp; done) | (simp; omega)))) ?_
   refine lw_v (.pointer (some ⟨b1, i, none⟩)) (dv_indexO (g := b1) (l := l) (c := l) (i := i) (j := (i : Int)) us50 sz2 (T rfl rfl) (T rfl rfl) (by omega) (by first | omega | (simp; done) | (simp; omega))) ?_
   refine lw_e (oe_storeW (L := M) (i := i) (z := xs.getD i 0) sz2 (T rfl rfl) (T rfl rfl) H16 (by first | omega | (simp; done) | (simp; omega)) ?_)
   intro w22 s23 H24
   have E25 := below_st E15 N4 s23
   refine lw_nil ?_
   refine rk_inBlock ?_
   refine rk_reg ?_
   refine lw_v (.int .i64 ((i : Int))) (dv_move (T rfl f14)) ?_
   refine lw_v (.int .i64 (((i : Int)) + 1)) (dv_add (a := (i : Int)) (b := 1) (z := ((i : Int)) + 1) (T rfl rfl) C (wr_i64 (by omega) (by omega))) ?_
   refine lw_v (.int .i64 (((i : Int)) + 1)) (dv_assign (T rfl rfl)) ?_
   refine lw_nil ?_
   exact ih8 (l - ((i + 1))) _ _ (by rw [hd17]; omega) ⟨(i + 1), (M.set i (xs.getD i 0)), rfl, f11, f12, f13, (vi (by omega)), E25, H24, (by omega), (by simp [setM_len, hMl]), (set_inv1 hMt (by omega) (by omega))⟩
 · refine rk_cf (T rfl (congrArg Value.bool (decide_eq_false hb18))) ?_
   refine rk_exit rfl ?_
   refine rk_seq ?_
   refine rk_reg ?_
   refine lw_v (.slice (some ⟨b1, 0, none⟩) l l) (dv_move (T rfl f13)) ?_
   refine lw_v (.slice (some ⟨b1, 0, none⟩) l l) (dv_assign (T rfl rfl)) ?_
   refine lw_nil ?_
   refine rk_ret Try.func102 (v := .slice (some ⟨b1, 0, none⟩) l l) (res1 Try.results102 (rv_tmp rfl rfl)) ⟨_, rfl, ?_⟩
   have hM : M = xs := take_all hMt (by omega) (by omega)
   exact ⟨_, rfl, E15, by rw [← hM]; exact H16, N4⟩
set_option maxHeartbeats 1000000 in
theorem toEvent_ok {w : World} {x y u : Int} {A : Option Addr} {l c : Nat} {xs : List Int} (fx_ : fits x) (fy_ : fits y) (fu_ : fits u) (hx : RdI w .i64 A xs) (hxl : xs.length = l) (hxb : l ≤ 1048576) : Ct Try.prog 54 [.agg #[.int .u64 (wv3 x), .int .u64 (wv2 x), .int .u64 (wv1 x), .int .u64 (wv0 x), .int .u64 (wv3 y), .int .u64 (wv2 y), .int .u64 (wv1 y), .int .u64 (wv0 y), .int .u64 (wv3 u), .int .u64 (wv2 u), .int .u64 (wv1 u), .int .u64 (wv0 u), .slice A l c]] w fun v w1 => ∃ A2, v = .agg #[.int .u64 (wv3 x), .int .u64 (wv2 x), .int .u64 (wv1 x), .int .u64 (wv0 x), .int .u64 (wv3 y), .int .u64 (wv2 y), .int .u64 (wv1 y), .int .u64 (wv0 y), .int .u64 (wv3 u), .int .u64 (wv2 u), .int .u64 (wv1 u), .int .u64 (wv0 u), .slice A2 l l] ∧ Ext w w1 ∧ Ow w1 w.heap.size 2 .i64 A2 l xs := by
 refine ct_run (n := 13) Try.func54 rfl Try.ntmps54 rfl ?_
 have E0 : Below w.heap.size w w := Below.refl _ _
 refine rk_seq ?_
 refine rk_reg ?_
 refine lw_e (oe_box (v := .agg #[.int .u64 (wv3 x), .int .u64 (wv2 x), .int .u64 (wv1 x), .int .u64 (wv0 x), .int .u64 (wv3 y), .int .u64 (wv2 y), .int .u64 (wv1 y), .int .u64 (wv0 y), .int .u64 (wv3 u), .int .u64 (wv2 u), .int .u64 (wv1 u), .int .u64 (wv0 u), .slice A l c]) (cs := #[.int .u64 (wv3 x), .int .u64 (wv2 x), .int .u64 (wv1 x), .int .u64 (wv0 x), .int .u64 (wv3 y), .int .u64 (wv2 y), .int .u64 (wv1 y), .int .u64 (wv0 y), .int .u64 (wv3 u), .int .u64 (wv2 u), .int .u64 (wv1 u), .int .u64 (wv0 u), .slice A l c]) (T rfl rfl) rfl ?_)
 intro b1 w2 n3
 have N4 : w.heap.size ≤ b1 := n3.eq ▸ E0.size
 have E5 := below_ext E0 E0.size n3.ext
 refine lw_e (oe_alloc ze52 ?_)
 intro b6 w7 n8
 have N9 : w.heap.size ≤ b6 := n8.eq ▸ E5.size
 have : b1 < b6 := n8.eq ▸ lt_of_blk n3.blk
 have E10 := below_ext E5 E5.size n8.ext
 refine lw_nil ?_
 refine rk_seq ?_
 refine rk_reg ?_
 refine lw_e (oe_alloc ze52 ?_)
 intro b11 w12 n13
 have N14 : w.heap.size ≤ b11 := n13.eq ▸ E10.size
 have : b6 < b11 := n13.eq ▸ lt_of_blk n8.blk
 have E15 := below_ext E10 E10.size n13.ext
 refine lw_nil ?_
 refine rk_seq ?_
 refine rk_reg ?_
 refine lw_v (.pointer (some ⟨b1, 0, none⟩)) (dv_fieldAddr (a := ⟨b1, 0, none⟩) (a' := ⟨b1, 0, none⟩) fo83_0 (T rfl rfl) rfl) ?_
 have H16 := (n13.ext.blk (n8.ext.blk n3.blk))
 refine lw_v (.agg #[.int .u64 (wv3 x), .int .u64 (wv2 x), .int .u64 (wv1 x), .int .u64 (wv0 x), .int .u64 (wv3 y), .int .u64 (wv2 y), .int .u64 (wv1 y), .int .u64 (wv0 y), .int .u64 (wv3 u), .int .u64 (wv2 u), .int .u64 (wv1 u), .int .u64 (wv0 u)]) (dv_loads (l := [.int .u64 (wv3 x), .int .u64 (wv2 x), .int .u64 (wv1 x), .int .u64 (wv0 x), .int .u64 (wv3 y), .int .u64 (wv2 y), .int .u64 (wv1 y), .int .u64 (wv0 y), .int .u64 (wv3 u), .int .u64 (wv2 u), .int .u64 (wv1 u), .int .u64 (wv0 u)]) agt61 sz61 (T rfl rfl) H16 rfl) ?_
 refine lw_e (oe_callf (vs := [.agg #[.int .u64 (wv3 x), .int .u64 (wv2 x), .int .u64 (wv1 x), .int .u64 (wv0 x), .int .u64 (wv3 y), .int .u64 (wv2 y), .int .u64 (wv1 y), .int .u64 (wv0 y), .int .u64 (wv3 u), .int .u64 (wv2 u), .int .u64 (wv1 u), .int .u64 (wv0 u)]]) co30 (ar1 (T rfl rfl)) (toPoint_ok (x := x) (y := y) (u := u)  ) ?_)
 rintro _ w17 ⟨rfl, e18⟩
 have E19 := below_ext E15 E15.size e18
 refine lw_v (.pointer (some ⟨b11, 0, none⟩)) (dv_fieldAddr (a := ⟨b11, 0, none⟩) (a' := ⟨b11, 0, none⟩) fo52_0 (T rfl rfl) rfl) ?_
 have H20 := (e18.blk n13.blk)
 refine lw_e (oe_store (v := .agg #[.int .u64 (wv3 x), .int .u64 (wv2 x), .int .u64 (wv1 x), .int .u64 (wv0 x), .int .u64 (wv3 y), .int .u64 (wv2 y), .int .u64 (wv1 y), .int .u64 (wv0 y), .int .u64 (wv3 u), .int .u64 (wv2 u), .int .u64 (wv1 u), .int .u64 (wv0 u)]) (vs := [.int .u64 (wv3 x), .int .u64 (wv2 x), .int .u64 (wv1 x), .int .u64 (wv0 x), .int .u64 (wv3 y), .int .u64 (wv2 y), .int .u64 (wv1 y), .int .u64 (wv0 y), .int .u64 (wv3 u), .int .u64 (wv2 u), .int .u64 (wv1 u), .int .u64 (wv0 u)]) (l := [.int .u64 (wv3 x), .int .u64 (wv2 x), .int .u64 (wv1 x), .int .u64 (wv0 x), .int .u64 (wv3 y), .int .u64 (wv2 y), .int .u64 (wv1 y), .int .u64 (wv0 y), .int .u64 (wv3 u), .int .u64 (wv2 u), .int .u64 (wv1 u), .int .u64 (wv0 u), .slice none 0 0]) (T rfl rfl) (T rfl rfl) sz40 rfl rfl rfl H20 rfl ?_)
 intro w21 s22 H23
 have E24 := below_st E19 N14 s22
 refine lw_nil ?_
 refine rk_seq ?_
 refine rk_reg ?_
 refine lw_v (.pointer (some ⟨b1, 12, none⟩)) (dv_fieldAddr (a := ⟨b1, 0, none⟩) (a' := ⟨b1, 12, none⟩) fo83_1 (T rfl rfl) rfl) ?_
 have H25 := (s22.blk (e18.blk H16) (by omega))
 refine lw_v (.slice A l c) (dv_load1 (b := b1) (o := 12) agt50 (T rfl rfl) H25 rfl) ?_
 have h26 := hx.ext E24
 have : b1 < w21.heap.size := lt_of_blk H25
 have H32 := (s22.blk (e18.blk (n13.ext.blk n8.blk)) (by omega))
 have : b6 < w21.heap.size := lt_of_blk H32
 have : b11 < w21.heap.size := lt_of_blk H23
 have : w.heap.size ≤ w21.heap.size := E24.size
 refine lw_e (oe_callf (vs := [.slice A l c]) co102 (ar1 (T rfl rfl)) (toInt64S_ok (l := l) (c := c) (xs := xs) h26 (by first | omega | (simp; done) | (simp; omega)) (by first | omega | (simp; done) | (simp; omega))) ?_)
 rintro _ w30 ⟨b27, rfl, e31, H28, hN29⟩
 have E33 := below_ext E24 E24.size e31
 have : b1 < b27 := by omega
 have : b6 < b27 := by omega
 have : b11 < b27 := by omega
 have N34 : w.heap.size ≤ b27 := by omega
 refine lw_v (.pointer (some ⟨b11, 12, none⟩)) (dv_fieldAddr (a := ⟨b11, 0, none⟩) (a' := ⟨b11, 12, none⟩) fo52_1 (T rfl rfl) rfl) ?_
 have H35 := (e31.blk H23)
 refine lw_e (oe_store (v := .slice (some ⟨b27, 0, none⟩) l l) (vs := [.slice (some ⟨b27, 0, none⟩) l l]) (l := [.int .u64 (wv3 x), .int .u64 (wv2 x), .int .u64 (wv1 x), .int .u64 (wv0 x), .int .u64 (wv3 y), .int .u64 (wv2 y), .int .u64 (wv1 y), .int .u64 (wv0 y), .int .u64 (wv3 u), .int .u64 (wv2 u), .int .u64 (wv1 u), .int .u64 (wv0 u), .slice (some ⟨b27, 0, none⟩) l l]) (T rfl rfl) (T rfl rfl) sz50 rfl rfl rfl H35 rfl ?_)
 intro w36 s37 H38
 have E39 := below_st E33 N14 s37
 refine lw_nil ?_
 refine rk_seq ?_
 refine rk_reg ?_
 refine lw_v (.agg #[.int .u64 (wv3 x), .int .u64 (wv2 x), .int .u64 (wv1 x), .int .u64 (wv0 x), .int .u64 (wv3 y), .int .u64 (wv2 y), .int .u64 (wv1 y), .int .u64 (wv0 y), .int .u64 (wv3 u), .int .u64 (wv2 u), .int .u64 (wv1 u), .int .u64 (wv0 u), .slice (some ⟨b27, 0, none⟩) l l]) (dv_loads (l := [.int .u64 (wv3 x), .int .u64 (wv2 x), .int .u64 (wv1 x), .int .u64 (wv0 x), .int .u64 (wv3 y), .int .u64 (wv2 y), .int .u64 (wv1 y), .int .u64 (wv0 y), .int .u64 (wv3 u), .int .u64 (wv2 u), .int .u64 (wv1 u), .int .u64 (wv0 u), .slice (some ⟨b27, 0, none⟩) l l]) agt52 sz52 (T rfl rfl) H38 rfl) ?_
 have H40 := (s37.blk (e31.blk H32) (by omega))
 refine lw_e (oe_store (v := .agg #[.int .u64 (wv3 x), .int .u64 (wv2 x), .int .u64 (wv1 x), .int .u64 (wv0 x), .int .u64 (wv3 y), .int .u64 (wv2 y), .int .u64 (wv1 y), .int .u64 (wv0 y), .int .u64 (wv3 u), .int .u64 (wv2 u), .int .u64 (wv1 u), .int .u64 (wv0 u), .slice (some ⟨b27, 0, none⟩) l l]) (vs := [.int .u64 (wv3 x), .int .u64 (wv2 x), .int .u64 (wv1 x), .int .u64 (wv0 x), .int .u64 (wv3 y), .int .u64 (wv2 y), .int .u64 (wv1 y), .int .u64 (wv0 y), .int .u64 (wv3 u), .int .u64 (wv2 u), .int .u64 (wv1 u), .int .u64 (wv0 u), .slice (some ⟨b27, 0, none⟩) l l]) (l := [.int .u64 (wv3 x), .int .u64 (wv2 x), .int .u64 (wv1 x), .int .u64 (wv0 x), .int .u64 (wv3 y), .int .u64 (wv2 y), .int .u64 (wv1 y), .int .u64 (wv0 y), .int .u64 (wv3 u), .int .u64 (wv2 u), .int .u64 (wv1 u), .int .u64 (wv0 u), .slice (some ⟨b27, 0, none⟩) l l]) (T rfl rfl) (T rfl rfl) sz52 rfl rfl rfl H40 rfl ?_)
 intro w41 s42 H43
 have E44 := below_st E39 N9 s42
 refine lw_nil ?_
 refine rk_ret Try.func54 (v := .agg #[.int .u64 (wv3 x), .int .u64 (wv2 x), .int .u64 (wv1 x), .int .u64 (wv0 x), .int .u64 (wv3 y), .int .u64 (wv2 y), .int .u64 (wv1 y), .int .u64 (wv0 y), .int .u64 (wv3 u), .int .u64 (wv2 u), .int .u64 (wv1 u), .int .u64 (wv0 u), .slice (some ⟨b27, 0, none⟩) l l]) (res1 Try.results54 (rv_cells (l := [.int .u64 (wv3 x), .int .u64 (wv2 x), .int .u64 (wv1 x), .int .u64 (wv0 x), .int .u64 (wv3 y), .int .u64 (wv2 y), .int .u64 (wv1 y), .int .u64 (wv0 y), .int .u64 (wv3 u), .int .u64 (wv2 u), .int .u64 (wv1 u), .int .u64 (wv0 u), .slice (some ⟨b27, 0, none⟩) l l]) agt52 sz52 rfl rfl H43 rfl)) ⟨_, rfl, ?_⟩
 have H45 := (s42.blk (s37.blk H28 (by omega)) (by omega))
 have hO_ := Ow.full (w := w) (L := xs) H45 (by omega)
 rw [hxl] at hO_
 exact ⟨_, rfl, E44, hO_.mono N34⟩
set_option maxHeartbeats 1000000 in
theorem toEventS_ok {w : World} {A : Option Addr} {l c : Nat} {Q : Nat → Ev} {SL : SlF} {lo hi : Nat} (hx : NR w lo hi A l (fun i_ => evW (Q i_)) (fun i_ => (Q i_).es) SL) (hxb : l ≤ 1048576) (hxf : evF l Q) : Ct Try.prog 17 [.slice A l c] w fun v w1 => ∃ A2 S2, v = .slice A2 l l ∧ Ext w w1 ∧ NO w1 w.heap.size w1.heap.size (-1) 52 2 A2 l l (fun i_ => evW (Q i_)) (fun i_ => (Q i_).es) S2 := by
 refine ct_run (n := 23) Try.func17 rfl Try.ntmps17 rfl ?_
 have E0 : Below w.heap.size w w := Below.refl _ _
 refine rk_seq ?_
 refine rk_reg ?_
 refine lw_v (.slice none 0 0) (dv_assign C) ?_
 refine lw_nil ?_
 refine rk_seq ?_
 refine rk_reg ?_
 refine lw_v (.slice A l c) (dv_move (T rfl rfl)) ?_
 refine lw_v (.int .i64 ((l : Int))) (dv_len (ad := A) (l := l) (c := c) us43 (T rfl rfl)) ?_
 refine lw_e (oe_makeN (x := -1) (T' := 2) (W := fun i_ => evW (Q i_)) (E := fun i_ => (Q i_).es) (SL := fun _ => (none, 0)) (m := l) (j := (l : Int)) us46 in52 rfl (T rfl rfl) (T rfl rfl) (by omega) (by first | omega | (simp; done) | (simp; omega)) (by first | omega | (simp; done) | (simp; omega)) (by omega) ?_)
 intro Am1 w2 hN3 e4
 have E5 := below_ext E0 E0.size e4
 refine lw_v (.slice Am1 l l) (dv_assign (T rfl rfl)) ?_
 refine lw_nil ?_
 refine rk_seq ?_
 refine rk_seq ?_
 refine rk_reg ?_
 refine lw_v (.int .i64 0) (dv_assign C) ?_
 refine lw_nil ?_
 refine rk_block ?_
 refine rk_loop (fun dm_ fr wl => ∃ (i : Nat) (S : SlF), dm_ = l - i ∧ fr 0 = .slice A l c ∧ fr 2 = .slice none 0 0 ∧ fr 3 = .slice Am1 l l ∧ fr 4 = .int .i64 ((i : Int)) ∧ Below w.heap.size w wl ∧ NO wl w.heap.size wl.heap.size (-1) 52 2 Am1 i l (fun i_ => evW (Q i_)) (fun i_ => (Q i_).es) S ∧ (i ≤ l)) (l - 0) ⟨0, (fun _ => (none, 0)), rfl, rfl, rfl, rfl, (vi (by omega)), E5, hN3, (Nat.zero_le _)⟩ ?_
 intro d10 fr9 w6 hI7 ih8
 obtain ⟨i, S, hd17, f11, f12, f13, f14, E15, h16, hi_⟩ := hI7
 obtain ⟨As18, hAs20⟩ : ∃ q_ : Option Addr, q_ = (SL i).1 := ⟨_, rfl⟩
 obtain ⟨cs19, hcs21⟩ : ∃ q_ : Nat, q_ = (SL i).2 := ⟨_, rfl⟩
 have hen : i < l → (Q i).es.length ≤ 1048576 := fun h_ => evF.n hxf h_
 refine rk_seq ?_
 refine rk_seq ?_
 refine rk_reg ?_
 refine lw_v (.int .i64 ((i : Int))) (dv_move (T rfl f14)) ?_
 refine lw_v (.slice A l c) (dv_move (T rfl f11)) ?_
 refine lw_v (.int .i64 ((l : Int))) (dv_len (ad := A) (l := l) (c := c) us43 (T rfl rfl)) ?_
 refine lw_v (.bool (decide (((i : Int)) < ((l : Int))))) (dv_lss (a := (i : Int)) (b := (l : Int)) (T rfl rfl) (T rfl rfl)) ?_
 refine lw_nil ?_
 by_cases hb22 : ((i : Int)) < ((l : Int))
 · refine rk_ct (T rfl (congrArg Value.bool (decide_eq_true hb22))) ?_
   refine rk_skip ?_
   refine rk_seq ?_
   refine rk_block ?_
   refine rk_reg ?_
   refine lw_v (.slice Am1 l l) (dv_move (T rfl f13)) ?_
   refine lw_v (.int .i64 ((i : Int))) (dv_move (T rfl f14)) ?_
   refine lw_v (.slice A l c) (dv_move (T rfl f11)) ?_
   refine lw_v (.int .i64 ((i : Int))) (dv_move (T rfl f14)) ?_
   have h25 := (hx.ext E15)
   obtain ⟨g23, o24, rfl⟩ := NR.at h25 (by first | omega | (simp; done) | (simp; omega))
   refine lw_v (.pointer (some ⟨g23, o24 + i * 13, none⟩)) (dv_indexM (g := g23) (o := o24) (l := l) (c := c) (i := i) (j := (i : Int)) (m := 13) us43 sz83 (T rfl rfl) (T rfl rfl) (by omega) (by first | omega | (simp; done) | (simp; omega))) ?_
   refine lw_v (.agg #[.int .u64 (wv3 ((Q i).x)), .int .u64 (wv2 ((Q i).x)), .int .u64 (wv1 ((Q i).x)), .int .u64 (wv0 ((Q i).x)), .int .u64 (wv3 ((Q i).y)), .int .u64 (wv2 ((Q i).y)), .int .u64 (wv1 ((Q i).y)), .int .u64 (wv0 ((Q i).y)), .int .u64 (wv3 ((Q i).u)), .int .u64 (wv2 ((Q i).u)), .int .u64 (wv1 ((Q i).u)), .int .u64 (wv0 ((Q i).u)), .slice As18 ((Q i).es.length) cs19]) (dv_loadsR (l := [.int .u64 (wv3 ((Q i).x)), .int .u64 (wv2 ((Q i).x)), .int .u64 (wv1 ((Q i).x)), .int .u64 (wv0 ((Q i).x)), .int .u64 (wv3 ((Q i).y)), .int .u64 (wv2 ((Q i).y)), .int .u64 (wv1 ((Q i).y)), .int .u64 (wv0 ((Q i).y)), .int .u64 (wv3 ((Q i).u)), .int .u64 (wv2 ((Q i).u)), .int .u64 (wv1 ((Q i).u)), .int .u64 (wv0 ((Q i).u)), .slice As18 ((Q i).es.length) cs19]) agt83 sz83 (T rfl rfl) rfl (NR.evA (i := i) h25 (by first | omega | (simp; done) | (simp; omega)) hAs20 hcs21)) ?_
   refine lw_e (oe_callf (vs := [.agg #[.int .u64 (wv3 ((Q i).x)), .int .u64 (wv2 ((Q i).x)), .int .u64 (wv1 ((Q i).x)), .int .u64 (wv0 ((Q i).x)), .int .u64 (wv3 ((Q i).y)), .int .u64 (wv2 ((Q i).y)), .int .u64 (wv1 ((Q i).y)), .int .u64 (wv0 ((Q i).y)), .int .u64 (wv3 ((Q i).u)), .int .u64 (wv2 ((Q i).u)), .int .u64 (wv1 ((Q i).u)), .int .u64 (wv0 ((Q i).u)), .slice As18 ((Q i).es.length) cs19]]) co54 (ar1 (T rfl rfl)) (toEvent_ok (c := cs19) (evF.x hxf (i := i) (by omega)) (evF.y hxf (i := i) (by omega)) (evF.u hxf (i := i) (by omega)) (NR.rdA (i := i) h25 (by first | omega | (simp; done) | (simp; omega)) hAs20) (by first | rfl | omega) (by first | omega | (simp; done) | (simp; omega))) ?_)
   rintro _ w28 ⟨At26, rfl, e29, hOt27⟩
   have E30 := below_ext E15 E15.size e29
   have h33 := (h16.ext e29)
   obtain ⟨g31, o32, rfl⟩ := NO.at h33 (by first | omega | (simp; done) | (simp; omega))
   refine lw_v (.pointer (some ⟨g31, o32 + i * 13, none⟩)) (dv_indexM (g := g31) (o := o32) (l := l) (c := l) (i := i) (j := (i : Int)) (m := 13) us46 sz52 (T rfl rfl) (T rfl rfl) (by omega) (by first | omega | (simp; done) | (simp; omega))) ?_
   refine lw_e (oe_storeN (lo := w.heap.size) (hi := w6.heap.size) (l := i) (c := l) (g := g31) (o := o32) (s := w6.heap.size) (ws := evW (Q i)) (es := (Q i).es) (vs := [.int .u64 (wv3 ((Q i).x)), .int .u64 (wv2 ((Q i).x)), .int .u64 (wv1 ((Q i).x)), .int .u64 (wv0 ((Q i).x)), .int .u64 (wv3 ((Q i).y)), .int .u64 (wv2 ((Q i).y)), .int .u64 (wv1 ((Q i).y)), .int .u64 (wv0 ((Q i).y)), .int .u64 (wv3 ((Q i).u)), .int .u64 (wv2 ((Q i).u)), .int .u64 (wv1 ((Q i).u)), .int .u64 (wv0 ((Q i).u)), .slice At26 ((Q i).es.length) ((Q i).es.length)]) (A' := At26) (c' := (Q i).es.length) sz52 (T rfl rfl) (T rfl rfl) h33 (by decide) (by first | omega | (simp; done) | (simp; omega)) rfl hOt27 (by omega) (by omega) (fun _ _ => rfl) rfl ?_)
   intro w34 hN35 x36
   have E37 := below_mid E30 (Nat.le_refl _) E30.size x36
   refine lw_nil ?_
   refine rk_inBlock ?_
   refine rk_reg ?_
   refine lw_v (.int .i64 ((i : Int))) (dv_move (T rfl f14)) ?_
   refine lw_v (.int .i64 (((i : Int)) + 1)) (dv_add (a := (i : Int)) (b := 1) (z := ((i : Int)) + 1) (T rfl rfl) C (wr_i64 (by omega) (by omega))) ?_
   refine lw_v (.int .i64 (((i : Int)) + 1)) (dv_assign (T rfl rfl)) ?_
   refine lw_nil ?_
   exact ih8 (l - ((i + 1))) _ _ (by rw [hd17]; omega) ⟨(i + 1), (updA S i (At26, (Q i).es.length)), rfl, f11, f12, f13, (vi (by omega)), E37, hN35, (by omega)⟩
 · refine rk_cf (T rfl (congrArg Value.bool (decide_eq_false hb22))) ?_
   refine rk_exit rfl ?_
   refine rk_seq ?_
   refine rk_reg ?_
   refine lw_v (.slice Am1 l l) (dv_move (T rfl f13)) ?_
   refine lw_v (.slice Am1 l l) (dv_assign (T rfl rfl)) ?_
   refine lw_nil ?_
   refine rk_ret Try.func17 (v := .slice Am1 l l) (res1 Try.results17 (rv_tmp rfl rfl)) ⟨_, rfl, ?_⟩
   obtain rfl : i = l := by omega
   exact ⟨_, _, rfl, E15, h16⟩
set_option maxHeartbeats 1000000 in
theorem eqPoint_ok {w : World} {x y u p q r : Int} (fx_ : fits x) (fy_ : fits y) (fu_ : fits u) (fp_ : fits p) (fq_ : fits q) (fr_ : fits r)  : Ct Try.prog 60 [.agg #[.int .u64 (wv3 x), .int .u64 (wv2 x), .int .u64 (wv1 x), .int .u64 (wv0 x), .int .u64 (wv3 y), .int .u64 (wv2 y), .int .u64 (wv1 y), .int .u64 (wv0 y), .int .u64 (wv3 u), .int .u64 (wv2 u), .int .u64 (wv1 u), .int .u64 (wv0 u)], .agg #[.int .u64 (wv3 p), .int .u64 (wv2 p), .int .u64 (wv1 p), .int .u64 (wv0 p), .int .u64 (wv3 q), .int .u64 (wv2 q), .int .u64 (wv1 q), .int .u64 (wv0 q), .int .u64 (wv3 r), .int .u64 (wv2 r), .int .u64 (wv1 r), .int .u64 (wv0 r)]] w fun v w1 => v = .bool (decide (x = p ∧ y = q ∧ u = r)) ∧ Ext w w1 := by
 refine ct_run (n := 23) Try.func60 rfl Try.ntmps60 rfl ?_
 have E0 : Below w.heap.size w w := Below.refl _ _
 refine rk_seq ?_
 refine rk_reg ?_
 refine lw_e (oe_box (v := .agg #[.int .u64 (wv3 x), .int .u64 (wv2 x), .int .u64 (wv1 x), .int .u64 (wv0 x), .int .u64 (wv3 y), .int .u64 (wv2 y), .int .u64 (wv1 y), .int .u64 (wv0 y), .int .u64 (wv3 u), .int .u64 (wv2 u), .int .u64 (wv1 u), .int .u64 (wv0 u)]) (cs := #[.int .u64 (wv3 x), .int .u64 (wv2 x), .int .u64 (wv1 x), .int .u64 (wv0 x), .int .u64 (wv3 y), .int .u64 (wv2 y), .int .u64 (wv1 y), .int .u64 (wv0 y), .int .u64 (wv3 u), .int .u64 (wv2 u), .int .u64 (wv1 u), .int .u64 (wv0 u)]) (T rfl rfl) rfl ?_)
 intro b1 w2 n3
 have N4 : w.heap.size ≤ b1 := n3.eq ▸ E0.size
 have E5 := below_ext E0 E0.size n3.ext
 refine lw_e (oe_box (v := .agg #[.int .u64 (wv3 p), .int .u64 (wv2 p), .int .u64 (wv1 p), .int .u64 (wv0 p), .int .u64 (wv3 q), .int .u64 (wv2 q), .int .u64 (wv1 q), .int .u64 (wv0 q), .int .u64 (wv3 r), .int .u64 (wv2 r), .int .u64 (wv1 r), .int .u64 (wv0 r)]) (cs := #[.int .u64 (wv3 p), .int .u64 (wv2 p), .int .u64 (wv1 p), .int .u64 (wv0 p), .int .u64 (wv3 q), .int .u64 (wv2 q), .int .u64 (wv1 q), .int .u64 (wv0 q), .int .u64 (wv3 r), .int .u64 (wv2 r), .int .u64 (wv1 r), .int .u64 (wv0 r)]) (T rfl rfl) rfl ?_)
 intro b6 w7 n8
 have N9 : w.heap.size ≤ b6 := n8.eq ▸ E5.size
 have : b1 < b6 := n8.eq ▸ lt_of_blk n3.blk
 have E10 := below_ext E5 E5.size n8.ext
 refine lw_v (.bool false) (dv_assign C) ?_
 refine lw_nil ?_
 refine rk_seq ?_
 refine rk_seq ?_
 refine rk_reg ?_
 refine lw_v (.pointer (some ⟨b1, 0, none⟩)) (dv_fieldAddr (a := ⟨b1, 0, none⟩) (a' := ⟨b1, 0, none⟩) fo40_0 (T rfl rfl) rfl) ?_
 have H11 := (n8.ext.blk n3.blk)
 refine lw_v (.agg #[.int .u64 (wv3 x), .int .u64 (wv2 x), .int .u64 (wv1 x), .int .u64 (wv0 x)]) (dv_loads (l := [.int .u64 (wv3 x), .int .u64 (wv2 x), .int .u64 (wv1 x), .int .u64 (wv0 x)]) agt38 sz38 (T rfl rfl) H11 rfl) ?_
 refine lw_v (.pointer (some ⟨b6, 0, none⟩)) (dv_fieldAddr (a := ⟨b6, 0, none⟩) (a' := ⟨b6, 0, none⟩) fo40_0 (T rfl rfl) rfl) ?_
 refine lw_v (.agg #[.int .u64 (wv3 p), .int .u64 (wv2 p), .int .u64 (wv1 p), .int .u64 (wv0 p)]) (dv_loads (l := [.int .u64 (wv3 p), .int .u64 (wv2 p), .int .u64 (wv1 p), .int .u64 (wv0 p)]) agt38 sz38 (T rfl rfl) n8.blk rfl) ?_
 refine lw_e (oe_callf (vs := [.agg #[.int .u64 (wv3 x), .int .u64 (wv2 x), .int .u64 (wv1 x), .int .u64 (wv0 x)], .agg #[.int .u64 (wv3 p), .int .u64 (wv2 p), .int .u64 (wv1 p), .int .u64 (wv0 p)]]) co107 (ar2 (T rfl rfl) (T rfl rfl)) (eqWide_ok (x := x) (y := p) fx_ fp_ ) ?_)
 rintro _ w12 ⟨rfl, e13⟩
 have E14 := below_ext E10 E10.size e13
 refine lw_v (.bool (decide (¬ (x = p)))) (dv_notd (p := x = p) (T rfl rfl)) ?_
 refine lw_nil ?_
 by_cases hb15 : x = p
 · refine rk_cf (T rfl (congrArg Value.bool (decide_eq_false (not_not_intro hb15)))) ?_
   refine rk_skip ?_
   refine rk_seq ?_
   refine rk_seq ?_
   refine rk_reg ?_
   refine lw_v (.pointer (some ⟨b1, 4, none⟩)) (dv_fieldAddr (a := ⟨b1, 0, none⟩) (a' := ⟨b1, 4, none⟩) fo40_1 (T rfl rfl) rfl) ?_
   have H16 := (e13.blk H11)
   refine lw_v (.agg #[.int .u64 (wv3 y), .int .u64 (wv2 y), .int .u64 (wv1 y), .int .u64 (wv0 y)]) (dv_loads (l := [.int .u64 (wv3 y), .int .u64 (wv2 y), .int .u64 (wv1 y), .int .u64 (wv0 y)]) agt38 sz38 (T rfl rfl) H16 rfl) ?_
   refine lw_v (.pointer (some ⟨b6, 4, none⟩)) (dv_fieldAddr (a := ⟨b6, 0, none⟩) (a' := ⟨b6, 4, none⟩) fo40_1 (T rfl rfl) rfl) ?_
   have H17 := (e13.blk n8.blk)
   refine lw_v (.agg #[.int .u64 (wv3 q), .int .u64 (wv2 q), .int .u64 (wv1 q), .int .u64 (wv0 q)]) (dv_loads (l := [.int .u64 (wv3 q), .int .u64 (wv2 q), .int .u64 (wv1 q), .int .u64 (wv0 q)]) agt38 sz38 (T rfl rfl) H17 rfl) ?_
   refine lw_e (oe_callf (vs := [.agg #[.int .u64 (wv3 y), .int .u64 (wv2 y), .int .u64 (wv1 y), .int .u64 (wv0 y)], .agg #[.int .u64 (wv3 q), .int .u64 (wv2 q), .int .u64 (wv1 q), .int .u64 (wv0 q)]]) co107 (ar2 (T rfl rfl) (T rfl rfl)) (eqWide_ok (x := y) (y := q) fy_ fq_ ) ?_)
   rintro _ w18 ⟨rfl, e19⟩
   have E20 := below_ext E14 E14.size e19
   refine lw_v (.bool (decide (¬ (y = q)))) (dv_notd (p := y = q) (T rfl rfl)) ?_
   refine lw_nil ?_
   by_cases hb21 : y = q
   · refine rk_cf (T rfl (congrArg Value.bool (decide_eq_false (not_not_intro hb21)))) ?_
     refine rk_skip ?_
     refine rk_seq ?_
     refine rk_seq ?_
     refine rk_reg ?_
     refine lw_v (.pointer (some ⟨b1, 8, none⟩)) (dv_fieldAddr (a := ⟨b1, 0, none⟩) (a' := ⟨b1, 8, none⟩) fo40_2 (T rfl rfl) rfl) ?_
     have H22 := (e19.blk H16)
     refine lw_v (.agg #[.int .u64 (wv3 u), .int .u64 (wv2 u), .int .u64 (wv1 u), .int .u64 (wv0 u)]) (dv_loads (l := [.int .u64 (wv3 u), .int .u64 (wv2 u), .int .u64 (wv1 u), .int .u64 (wv0 u)]) agt38 sz38 (T rfl rfl) H22 rfl) ?_
     refine lw_v (.pointer (some ⟨b6, 8, none⟩)) (dv_fieldAddr (a := ⟨b6, 0, none⟩) (a' := ⟨b6, 8, none⟩) fo40_2 (T rfl rfl) rfl) ?_
     have H23 := (e19.blk H17)
     refine lw_v (.agg #[.int .u64 (wv3 r), .int .u64 (wv2 r), .int .u64 (wv1 r), .int .u64 (wv0 r)]) (dv_loads (l := [.int .u64 (wv3 r), .int .u64 (wv2 r), .int .u64 (wv1 r), .int .u64 (wv0 r)]) agt38 sz38 (T rfl rfl) H23 rfl) ?_
     refine lw_e (oe_callf (vs := [.agg #[.int .u64 (wv3 u), .int .u64 (wv2 u), .int .u64 (wv1 u), .int .u64 (wv0 u)], .agg #[.int .u64 (wv3 r), .int .u64 (wv2 r), .int .u64 (wv1 r), .int .u64 (wv0 r)]]) co107 (ar2 (T rfl rfl) (T rfl rfl)) (eqWide_ok (x := u) (y := r) fu_ fr_ ) ?_)
     rintro _ w24 ⟨rfl, e25⟩
     have E26 := below_ext E20 E20.size e25
     refine lw_v (.bool (decide (¬ (u = r)))) (dv_notd (p := u = r) (T rfl rfl)) ?_
     refine lw_nil ?_
     by_cases hb27 : u = r
     · refine rk_cf (T rfl (congrArg Value.bool (decide_eq_false (not_not_intro hb27)))) ?_
       refine rk_skip ?_
       refine rk_seq ?_
       refine rk_reg ?_
       refine lw_v (.bool true) (dv_assign C) ?_
       refine lw_nil ?_
       refine rk_ret Try.func60 (v := .bool true) (res1 Try.results60 (rv_tmp rfl rfl)) ⟨_, rfl, ?_⟩
       exact ⟨(vt (by omega)), E26⟩
     · refine rk_ct (T rfl (congrArg Value.bool (decide_eq_true hb27))) ?_
       refine rk_seq ?_
       refine rk_reg ?_
       refine lw_v (.bool false) (dv_assign C) ?_
       refine lw_nil ?_
       refine rk_ret Try.func60 (v := .bool false) (res1 Try.results60 (rv_tmp rfl rfl)) ⟨_, rfl, ?_⟩
       exact ⟨(vf (by omega)), E26⟩
   · refine rk_ct (T rfl (congrArg Value.bool (decide_eq_true hb21))) ?_
     refine rk_seq ?_
     refine rk_reg ?_
     refine lw_v (.bool false) (dv_assign C) ?_
     refine lw_nil ?_
     refine rk_ret Try.func60 (v := .bool false) (res1 Try.results60 (rv_tmp rfl rfl)) ⟨_, rfl, ?_⟩
     exact ⟨(vf (by omega)), E20⟩
 · refine rk_ct (T rfl (congrArg Value.bool (decide_eq_true hb15))) ?_
   refine rk_seq ?_
   refine rk_reg ?_
   refine lw_v (.bool false) (dv_assign C) ?_
   refine lw_nil ?_
   refine rk_ret Try.func60 (v := .bool false) (res1 Try.results60 (rv_tmp rfl rfl)) ⟨_, rfl, ?_⟩
   exact ⟨(vf (by omega)), E14⟩
set_option maxHeartbeats 1000000 in
theorem eqInt64S_ok {w : World} {A : Option Addr} {l c : Nat} {xs : List Int} (hx : RdI w .i64 A xs) (hxl : xs.length = l) (hxb : l ≤ 1048576) {D : Option Addr} {m d : Nat} {ys : List Int} (hy : RdI w .i64 D ys) (hyl : ys.length = m) (hyb : m ≤ 1048576) : Ct Try.prog 32 [.slice A l c, .slice D m d] w fun v w1 => v = .bool (decide ((xs : List Int) = ys)) ∧ Ext w w1 := by
 refine ct_run (n := 26) Try.func32 rfl Try.ntmps32 rfl ?_
 have E0 : Below w.heap.size w w := Below.refl _ _
 refine rk_seq ?_
 refine rk_reg ?_
 refine lw_v (.bool false) (dv_assign C) ?_
 refine lw_nil ?_
 refine rk_seq ?_
 refine rk_seq ?_
 refine rk_reg ?_
 refine lw_v (.slice A l c) (dv_move (T rfl rfl)) ?_
 refine lw_v (.int .i64 ((l : Int))) (dv_len (ad := A) (l := l) (c := c) us50 (T rfl rfl)) ?_
 refine lw_v (.slice D m d) (dv_move (T rfl rfl)) ?_
 refine lw_v (.int .i64 ((m : Int))) (dv_len (ad := D) (l := m) (c := d) us50 (T rfl rfl)) ?_
 refine lw_v (.bool (decide (((l : Int)) ≠ ((m : Int))))) (dv_neq (a := (l : Int)) (b := (m : Int)) (T rfl rfl) (T rfl rfl)) ?_
 refine lw_nil ?_
 by_cases hb1 : ((l : Int)) ≠ ((m : Int))
 · refine rk_ct (T rfl (congrArg Value.bool (decide_eq_true hb1))) ?_
   refine rk_seq ?_
   refine rk_reg ?_
   refine lw_v (.bool false) (dv_assign C) ?_
   refine lw_nil ?_
   refine rk_ret Try.func32 (v := .bool false) (res1 Try.results32 (rv_tmp rfl rfl)) ⟨_, rfl, ?_⟩
   exact ⟨(vf (by intro hh; have := congrArg List.length hh; omega)), E0⟩
 · refine rk_cf (T rfl (congrArg Value.bool (decide_eq_false hb1))) ?_
   refine rk_skip ?_
   refine rk_seq ?_
   refine rk_seq ?_
   refine rk_reg ?_
   refine lw_v (.int .i64 0) (dv_assign C) ?_
   refine lw_nil ?_
   refine rk_block ?_
   refine rk_loop (fun dm_ fr wl => ∃ (i : Nat), dm_ = l - i ∧ fr 0 = .slice A l c ∧ fr 1 = .slice D m d ∧ fr 5 = .int .i64 ((i : Int)) ∧ Below w.heap.size w wl ∧ (i ≤ l) ∧ (xs.take (i) = ys.take (i))) (l - 0) ⟨0, rfl, rfl, rfl, (vi (by omega)), E0, (Nat.zero_le _), (by simp)⟩ ?_
   intro d6 fr5 w2 hI3 ih4
   obtain ⟨i, hd11, f7, f8, f9, E10, hi, hqt⟩ := hI3
   refine rk_seq ?_
   refine rk_seq ?_
   refine rk_reg ?_
   refine lw_v (.int .i64 ((i : Int))) (dv_move (T rfl f9)) ?_
   refine lw_v (.slice A l c) (dv_move (T rfl f7)) ?_
   refine lw_v (.int .i64 ((l : Int))) (dv_len (ad := A) (l := l) (c := c) us50 (T rfl rfl)) ?_
   refine lw_v (.bool (decide (((i : Int)) < ((l : Int))))) (dv_lss (a := (i : Int)) (b := (l : Int)) (T rfl rfl) (T rfl rfl)) ?_
   refine lw_nil ?_
   by_cases hb12 : ((i : Int)) < ((l : Int))
   · refine rk_ct (T rfl (congrArg Value.bool (decide_eq_true hb12))) ?_
     refine rk_skip ?_
     refine rk_seq ?_
     refine rk_block ?_
     refine rk_seq ?_
     have h13 := (hx.ext E10)
     have h14 := (hy.ext E10)
     refine rk_any (fun w => RdI w .i64 A xs ∧ RdI w .i64 D ys) [] mo ?_
     intro w15 d16
     have E17 := below_ext E10 E10.size d16.ext
     have h18 := (h13.ext d16.ext)
     have h19 := (h14.ext d16.ext)
     refine aw_pure 0 (.slice A l c) rfl (by kernel_rfl) .none ⟨h18, h19⟩ (fun _ => dv_move (T rfl f7)) ?_
     refine aw_pure 1 (.int .i64 ((i : Int))) rfl (by kernel_rfl) .none ⟨h18, h19⟩ (fun _ => dv_move (T rfl f9)) ?_
     obtain ⟨g20, o21, rfl⟩ := RdI.at h18 (by first | omega | (simp; done) | (simp; omega))
     refine aw_pure 2 (.pointer (some ⟨g20, o21 + i, none⟩)) rfl (by kernel_rfl) .none ⟨h18, h19⟩ (fun _ => dv_indexW (g := g20) (o := o21) (l := l) (c := c) (i := i) (j := (i : Int)) us50 sz2 (T rfl rfl) (T rfl rfl) (by omega) (by first | omega | (simp; done) | (simp; omega))) ?_
     refine aw_load 3 (.int .i64 (xs.getD i 0)) rfl (by kernel_rfl) .none ⟨h18, h19⟩ (fun _ s => dv_load agt2 (T rfl rfl) (RdI.cell s.1 (by first | omega | (simp; done) | (simp; omega)))) ?_
     refine aw_pure 4 (.slice D m d) rfl (by kernel_rfl) .none ⟨h18, h19⟩ (fun _ => dv_move (T rfl f8)) ?_
     refine aw_pure 5 (.int .i64 ((i : Int))) rfl (by kernel_rfl) .none ⟨h18, h19⟩ (fun _ => dv_move (T rfl f9)) ?_
     obtain ⟨g22, o23, rfl⟩ := RdI.at h19 (by first | omega | (simp; done) | (simp; omega))
     refine aw_pure 6 (.pointer (some ⟨g22, o23 + i, none⟩)) rfl (by kernel_rfl) .none ⟨h18, h19⟩ (fun _ => dv_indexW (g := g22) (o := o23) (l := m) (c := d) (i := i) (j := (i : Int)) us50 sz2 (T rfl rfl) (T rfl rfl) (by omega) (by first | omega | (simp; done) | (simp; omega))) ?_
     refine aw_load 7 (.int .i64 (ys.getD i 0)) rfl (by kernel_rfl) .none ⟨h18, h19⟩ (fun _ s => dv_load agt2 (T rfl rfl) (RdI.cell s.2 (by first | omega | (simp; done) | (simp; omega)))) ?_
     refine aw_pure 8 (.bool (decide ((xs.getD i 0) ≠ (ys.getD i 0)))) rfl (by kernel_rfl) .none ⟨h18, h19⟩ (fun _ => dv_neq (a := xs.getD i 0) (b := ys.getD i 0) (T rfl rfl) (T rfl rfl)) ?_
     refine aw_done (by kernel_rfl) ?_
     by_cases hb24 : (xs.getD i 0) ≠ (ys.getD i 0)
     · refine rk_ct (T rfl (congrArg Value.bool (decide_eq_true hb24))) ?_
       refine rk_seq ?_
       refine rk_reg ?_
       refine lw_v (.bool false) (dv_assign C) ?_
       refine lw_nil ?_
       refine rk_ret Try.func32 (v := .bool false) (res1 Try.results32 (rv_tmp rfl rfl)) ⟨_, rfl, ?_⟩
       exact ⟨(vf (by intro hh; subst hh; exact absurd rfl (by assumption))), E17⟩
     · refine rk_cf (T rfl (congrArg Value.bool (decide_eq_false hb24))) ?_
       refine rk_skip ?_
       refine rk_inBlock ?_
       refine rk_reg ?_
       refine lw_v (.int .i64 ((i : Int))) (dv_move (T rfl f9)) ?_
       refine lw_v (.int .i64 (((i : Int)) + 1)) (dv_add (a := (i : Int)) (b := 1) (z := ((i : Int)) + 1) (T rfl rfl) C (wr_i64 (by omega) (by omega))) ?_
       refine lw_v (.int .i64 (((i : Int)) + 1)) (dv_assign (T rfl rfl)) ?_
       refine lw_nil ?_
       exact ih4 (l - ((i + 1))) _ _ (by rw [hd11]; omega) ⟨(i + 1), rfl, f7, f8, (vi (by omega)), E17, (by omega), (take_eq1 hqt (by omega) (by omega) (by first | assumption | exact Decidable.not_not.1 (by assumption)))⟩
   · refine rk_cf (T rfl (congrArg Value.bool (decide_eq_false hb12))) ?_
     refine rk_exit rfl ?_
     refine rk_seq ?_
     refine rk_reg ?_
     refine lw_v (.bool true) (dv_assign C) ?_
     refine lw_nil ?_
     refine rk_ret Try.func32 (v := .bool true) (res1 Try.results32 (rv_tmp rfl rfl)) ⟨_, rfl, ?_⟩
     exact ⟨(vt (take_all hqt (by omega) (by omega))), E10⟩
set_option maxHeartbeats 1000000 in
theorem eqEvent_ok {w : World} {x y u : Int} {A D : Option Addr} {l c d : Nat} {xs : List Int} (fx_ : fits x) (fy_ : fits y) (fu_ : fits u) (hx : RdI w .i64 A xs) (hy : RdI w .i64 D xs) (hxl : xs.length = l) (hxb : l ≤ 1048576) : Ct Try.prog 22 [.agg #[.int .u64 (wv3 x), .int .u64 (wv2 x), .int .u64 (wv1 x), .int .u64 (wv0 x), .int .u64 (wv3 y), .int .u64 (wv2 y), .int .u64 (wv1 y), .int .u64 (wv0 y), .int .u64 (wv3 u), .int .u64 (wv2 u), .int .u64 (wv1 u), .int .u64 (wv0 u), .slice A l c], .agg #[.int .u64 (wv3 x), .int .u64 (wv2 x), .int .u64 (wv1 x), .int .u64 (wv0 x), .int .u64 (wv3 y), .int .u64 (wv2 y), .int .u64 (wv1 y), .int .u64 (wv0 y), .int .u64 (wv3 u), .int .u64 (wv2 u), .int .u64 (wv1 u), .int .u64 (wv0 u), .slice D l d]] w fun v w1 => v = .bool true ∧ Ext w w1 := by
 refine ct_run (n := 17) Try.func22 rfl Try.ntmps22 rfl ?_
 have E0 : Below w.heap.size w w := Below.refl _ _
 refine rk_seq ?_
 refine rk_reg ?_
 refine lw_e (oe_box (v := .agg #[.int .u64 (wv3 x), .int .u64 (wv2 x), .int .u64 (wv1 x), .int .u64 (wv0 x), .int .u64 (wv3 y), .int .u64 (wv2 y), .int .u64 (wv1 y), .int .u64 (wv0 y), .int .u64 (wv3 u), .int .u64 (wv2 u), .int .u64 (wv1 u), .int .u64 (wv0 u), .slice A l c]) (cs := #[.int .u64 (wv3 x), .int .u64 (wv2 x), .int .u64 (wv1 x), .int .u64 (wv0 x), .int .u64 (wv3 y), .int .u64 (wv2 y), .int .u64 (wv1 y), .int .u64 (wv0 y), .int .u64 (wv3 u), .int .u64 (wv2 u), .int .u64 (wv1 u), .int .u64 (wv0 u), .slice A l c]) (T rfl rfl) rfl ?_)
 intro b1 w2 n3
 have N4 : w.heap.size ≤ b1 := n3.eq ▸ E0.size
 have E5 := below_ext E0 E0.size n3.ext
 refine lw_e (oe_box (v := .agg #[.int .u64 (wv3 x), .int .u64 (wv2 x), .int .u64 (wv1 x), .int .u64 (wv0 x), .int .u64 (wv3 y), .int .u64 (wv2 y), .int .u64 (wv1 y), .int .u64 (wv0 y), .int .u64 (wv3 u), .int .u64 (wv2 u), .int .u64 (wv1 u), .int .u64 (wv0 u), .slice D l d]) (cs := #[.int .u64 (wv3 x), .int .u64 (wv2 x), .int .u64 (wv1 x), .int .u64 (wv0 x), .int .u64 (wv3 y), .int .u64 (wv2 y), .int .u64 (wv1 y), .int .u64 (wv0 y), .int .u64 (wv3 u), .int .u64 (wv2 u), .int .u64 (wv1 u), .int .u64 (wv0 u), .slice D l d]) (T rfl rfl) rfl ?_)
 intro b6 w7 n8
 have N9 : w.heap.size ≤ b6 := n8.eq ▸ E5.size
 have : b1 < b6 := n8.eq ▸ lt_of_blk n3.blk
 have E10 := below_ext E5 E5.size n8.ext
 refine lw_v (.bool false) (dv_assign C) ?_
 refine lw_nil ?_
 refine rk_seq ?_
 refine rk_seq ?_
 refine rk_reg ?_
 refine lw_v (.pointer (some ⟨b1, 0, none⟩)) (dv_fieldAddr (a := ⟨b1, 0, none⟩) (a' := ⟨b1, 0, none⟩) fo52_0 (T rfl rfl) rfl) ?_
 have H11 := (n8.ext.blk n3.blk)
 refine lw_v (.agg #[.int .u64 (wv3 x), .int .u64 (wv2 x), .int .u64 (wv1 x), .int .u64 (wv0 x), .int .u64 (wv3 y), .int .u64 (wv2 y), .int .u64 (wv1 y), .int .u64 (wv0 y), .int .u64 (wv3 u), .int .u64 (wv2 u), .int .u64 (wv1 u), .int .u64 (wv0 u)]) (dv_loads (l := [.int .u64 (wv3 x), .int .u64 (wv2 x), .int .u64 (wv1 x), .int .u64 (wv0 x), .int .u64 (wv3 y), .int .u64 (wv2 y), .int .u64 (wv1 y), .int .u64 (wv0 y), .int .u64 (wv3 u), .int .u64 (wv2 u), .int .u64 (wv1 u), .int .u64 (wv0 u)]) agt40 sz40 (T rfl rfl) H11 rfl) ?_
 refine lw_v (.pointer (some ⟨b6, 0, none⟩)) (dv_fieldAddr (a := ⟨b6, 0, none⟩) (a' := ⟨b6, 0, none⟩) fo52_0 (T rfl rfl) rfl) ?_
 refine lw_v (.agg #[.int .u64 (wv3 x), .int .u64 (wv2 x), .int .u64 (wv1 x), .int .u64 (wv0 x), .int .u64 (wv3 y), .int .u64 (wv2 y), .int .u64 (wv1 y), .int .u64 (wv0 y), .int .u64 (wv3 u), .int .u64 (wv2 u), .int .u64 (wv1 u), .int .u64 (wv0 u)]) (dv_loads (l := [.int .u64 (wv3 x), .int .u64 (wv2 x), .int .u64 (wv1 x), .int .u64 (wv0 x), .int .u64 (wv3 y), .int .u64 (wv2 y), .int .u64 (wv1 y), .int .u64 (wv0 y), .int .u64 (wv3 u), .int .u64 (wv2 u), .int .u64 (wv1 u), .int .u64 (wv0 u)]) agt40 sz40 (T rfl rfl) n8.blk rfl) ?_
 refine lw_e (oe_callf (vs := [.agg #[.int .u64 (wv3 x), .int .u64 (wv2 x), .int .u64 (wv1 x), .int .u64 (wv0 x), .int .u64 (wv3 y), .int .u64 (wv2 y), .int .u64 (wv1 y), .int .u64 (wv0 y), .int .u64 (wv3 u), .int .u64 (wv2 u), .int .u64 (wv1 u), .int .u64 (wv0 u)], .agg #[.int .u64 (wv3 x), .int .u64 (wv2 x), .int .u64 (wv1 x), .int .u64 (wv0 x), .int .u64 (wv3 y), .int .u64 (wv2 y), .int .u64 (wv1 y), .int .u64 (wv0 y), .int .u64 (wv3 u), .int .u64 (wv2 u), .int .u64 (wv1 u), .int .u64 (wv0 u)]]) co60 (ar2 (T rfl rfl) (T rfl rfl)) (eqPoint_ok (x := x) (y := y) (u := u) (p := x) (q := y) (r := u) fx_ fy_ fu_ fx_ fy_ fu_ ) ?_)
 rintro _ w12 ⟨rfl, e13⟩
 have E14 := below_ext E10 E10.size e13
 refine lw_v (.bool (decide (¬ (x = x ∧ y = y ∧ u = u)))) (dv_notd (p := x = x ∧ y = y ∧ u = u) (T rfl rfl)) ?_
 refine lw_nil ?_
 by_cases hb15 : x = x ∧ y = y ∧ u = u
 · refine rk_cf (T rfl (congrArg Value.bool (decide_eq_false (not_not_intro hb15)))) ?_
   refine rk_skip ?_
   refine rk_seq ?_
   refine rk_seq ?_
   refine rk_reg ?_
   refine lw_v (.pointer (some ⟨b1, 12, none⟩)) (dv_fieldAddr (a := ⟨b1, 0, none⟩) (a' := ⟨b1, 12, none⟩) fo52_1 (T rfl rfl) rfl) ?_
   have H16 := (e13.blk H11)
   refine lw_v (.slice A l c) (dv_load1 (b := b1) (o := 12) agt50 (T rfl rfl) H16 rfl) ?_
   refine lw_v (.pointer (some ⟨b6, 12, none⟩)) (dv_fieldAddr (a := ⟨b6, 0, none⟩) (a' := ⟨b6, 12, none⟩) fo52_1 (T rfl rfl) rfl) ?_
   have H17 := (e13.blk n8.blk)
   refine lw_v (.slice D l d) (dv_load1 (b := b6) (o := 12) agt50 (T rfl rfl) H17 rfl) ?_
   have h18 := (((hx.ext n3.ext).ext n8.ext).ext e13)
   have h19 := (((hy.ext n3.ext).ext n8.ext).ext e13)
   refine lw_e (oe_callf (vs := [.slice A l c, .slice D l d]) co32 (ar2 (T rfl rfl) (T rfl rfl)) (eqInt64S_ok (l := l) (m := l) (c := c) (d := d) (xs := xs) (ys := xs) h18 (by first | omega | (simp; done) | (simp; omega)) (by first | omega | (simp; done) | (simp; omega)) h19 (by first | omega | (simp; done) | (simp; omega)) (by first | omega | (simp; done) | (simp; omega))) ?_)
   rintro _ w20 ⟨rfl, e21⟩
   have E22 := below_ext E14 E14.size e21
   refine lw_v (.bool (decide (¬ ((xs : List Int) = xs)))) (dv_notd (p := (xs : List Int) = xs) (T rfl rfl)) ?_
   refine lw_nil ?_
   by_cases hb23 : (xs : List Int) = xs
   · refine rk_cf (T rfl (congrArg Value.bool (decide_eq_false (not_not_intro hb23)))) ?_
     refine rk_skip ?_
     refine rk_seq ?_
     refine rk_reg ?_
     refine lw_v (.bool true) (dv_assign C) ?_
     refine lw_nil ?_
     refine rk_ret Try.func22 (v := .bool true) (res1 Try.results22 (rv_tmp rfl rfl)) ⟨_, rfl, ?_⟩
     exact ⟨rfl, E22⟩
   · refine rk_ct (T rfl (congrArg Value.bool (decide_eq_true hb23))) ?_
     refine rk_seq ?_
     refine rk_reg ?_
     refine lw_v (.bool false) (dv_assign C) ?_
     refine lw_nil ?_
     refine rk_ret Try.func22 (v := .bool false) (res1 Try.results22 (rv_tmp rfl rfl)) ⟨_, rfl, ?_⟩
     exact ⟨by exfalso; first | contradiction | exact absurd rfl (by assumption) | exact (by assumption : ¬ (x = x ∧ y = y ∧ u = u)) ⟨rfl, rfl, rfl⟩, E22⟩
 · refine rk_ct (T rfl (congrArg Value.bool (decide_eq_true hb15))) ?_
   refine rk_seq ?_
   refine rk_reg ?_
   refine lw_v (.bool false) (dv_assign C) ?_
   refine lw_nil ?_
   refine rk_ret Try.func22 (v := .bool false) (res1 Try.results22 (rv_tmp rfl rfl)) ⟨_, rfl, ?_⟩
   exact ⟨by exfalso; first | contradiction | exact absurd rfl (by assumption) | exact (by assumption : ¬ (x = x ∧ y = y ∧ u = u)) ⟨rfl, rfl, rfl⟩, E14⟩
set_option maxHeartbeats 1000000 in
theorem eqEventS_ok {w : World} {A : Option Addr} {l c : Nat} {Q : Nat → Ev} {SL : SlF} {lo hi : Nat} (hx : NR w lo hi A l (fun i_ => evW (Q i_)) (fun i_ => (Q i_).es) SL) (hxb : l ≤ 1048576) (hxf : evF l Q) {D : Option Addr} {d : Nat} {SM : SlF} {lo2 hi2 : Nat} (hy : NR w lo2 hi2 D l (fun i_ => evW (Q i_)) (fun i_ => (Q i_).es) SM) : Ct Try.prog 19 [.slice A l c, .slice D l d] w fun v w1 => v = .bool true ∧ Ext w w1 := by
 refine ct_run (n := 27) Try.func19 rfl Try.ntmps19 rfl ?_
 have E0 : Below w.heap.size w w := Below.refl _ _
 refine rk_seq ?_
 refine rk_reg ?_
 refine lw_v (.bool false) (dv_assign C) ?_
 refine lw_nil ?_
 refine rk_seq ?_
 refine rk_seq ?_
 refine rk_reg ?_
 refine lw_v (.slice A l c) (dv_move (T rfl rfl)) ?_
 refine lw_v (.int .i64 ((l : Int))) (dv_len (ad := A) (l := l) (c := c) us46 (T rfl rfl)) ?_
 refine lw_v (.slice D l d) (dv_move (T rfl rfl)) ?_
 refine lw_v (.int .i64 ((l : Int))) (dv_len (ad := D) (l := l) (c := d) us46 (T rfl rfl)) ?_
 refine lw_v (.bool (decide (((l : Int)) ≠ ((l : Int))))) (dv_neq (a := (l : Int)) (b := (l : Int)) (T rfl rfl) (T rfl rfl)) ?_
 refine lw_nil ?_
 by_cases hb1 : ((l : Int)) ≠ ((l : Int))
 · refine rk_ct (T rfl (congrArg Value.bool (decide_eq_true hb1))) ?_
   refine rk_seq ?_
   refine rk_reg ?_
   refine lw_v (.bool false) (dv_assign C) ?_
   refine lw_nil ?_
   refine rk_ret Try.func19 (v := .bool false) (res1 Try.results19 (rv_tmp rfl rfl)) ⟨_, rfl, ?_⟩
   exact ⟨by exfalso; first | contradiction | omega, E0⟩
 · refine rk_cf (T rfl (congrArg Value.bool (decide_eq_false hb1))) ?_
   refine rk_skip ?_
   refine rk_seq ?_
   refine rk_seq ?_
   refine rk_reg ?_
   refine lw_v (.int .i64 0) (dv_assign C) ?_
   refine lw_nil ?_
   refine rk_block ?_
   refine rk_loop (fun dm_ fr wl => ∃ (i : Nat), dm_ = l - i ∧ fr 0 = .slice A l c ∧ fr 1 = .slice D l d ∧ fr 5 = .int .i64 ((i : Int)) ∧ Below w.heap.size w wl ∧ (i ≤ l)) (l - 0) ⟨0, rfl, rfl, rfl, (vi (by omega)), E0, (Nat.zero_le _)⟩ ?_
   intro d6 fr5 w2 hI3 ih4
   obtain ⟨i, hd11, f7, f8, f9, E10, hi_⟩ := hI3
   obtain ⟨As12, hAs14⟩ : ∃ q_ : Option Addr, q_ = (SL i).1 := ⟨_, rfl⟩
   obtain ⟨cs13, hcs15⟩ : ∃ q_ : Nat, q_ = (SL i).2 := ⟨_, rfl⟩
   obtain ⟨As16, hAs18⟩ : ∃ q_ : Option Addr, q_ = (SM i).1 := ⟨_, rfl⟩
   obtain ⟨cs17, hcs19⟩ : ∃ q_ : Nat, q_ = (SM i).2 := ⟨_, rfl⟩
   have hen : i < l → (Q i).es.length ≤ 1048576 := fun h_ => evF.n hxf h_
   refine rk_seq ?_
   refine rk_seq ?_
   refine rk_reg ?_
   refine lw_v (.int .i64 ((i : Int))) (dv_move (T rfl f9)) ?_
   refine lw_v (.slice A l c) (dv_move (T rfl f7)) ?_
   refine lw_v (.int .i64 ((l : Int))) (dv_len (ad := A) (l := l) (c := c) us46 (T rfl rfl)) ?_
   refine lw_v (.bool (decide (((i : Int)) < ((l : Int))))) (dv_lss (a := (i : Int)) (b := (l : Int)) (T rfl rfl) (T rfl rfl)) ?_
   refine lw_nil ?_
   by_cases hb20 : ((i : Int)) < ((l : Int))
   · refine rk_ct (T rfl (congrArg Value.bool (decide_eq_true hb20))) ?_
     refine rk_skip ?_
     refine rk_seq ?_
     refine rk_block ?_
     refine rk_seq ?_
     refine rk_any (fun w => NR w lo hi A l (fun i_ => evW (Q i_)) (fun i_ => (Q i_).es) SL ∧ NR w lo2 hi2 D l (fun i_ => evW (Q i_)) (fun i_ => (Q i_).es) SM) [] mo ?_
     intro w21 d22
     have E23 := below_ext E10 E10.size d22.ext
     have h24 := ((hx.ext E10).ext d22.ext)
     have h25 := ((hy.ext E10).ext d22.ext)
     refine aw_pure 0 (.slice A l c) rfl (by kernel_rfl) .none ⟨h24, h25⟩ (fun _ => dv_move (T rfl f7)) ?_
     refine aw_pure 1 (.int .i64 ((i : Int))) rfl (by kernel_rfl) .none ⟨h24, h25⟩ (fun _ => dv_move (T rfl f9)) ?_
     obtain ⟨g26, o27, rfl⟩ := NR.at h24 (by first | omega | (simp; done) | (simp; omega))
     refine aw_pure 2 (.pointer (some ⟨g26, o27 + i * 13, none⟩)) rfl (by kernel_rfl) .none ⟨h24, h25⟩ (fun _ => dv_indexM (g := g26) (o := o27) (l := l) (c := c) (i := i) (j := (i : Int)) (m := 13) us46 sz52 (T rfl rfl) (T rfl rfl) (by omega) (by first | omega | (simp; done) | (simp; omega))) ?_
     refine aw_load 3 (.agg #[.int .u64 (wv3 ((Q i).x)), .int .u64 (wv2 ((Q i).x)), .int .u64 (wv1 ((Q i).x)), .int .u64 (wv0 ((Q i).x)), .int .u64 (wv3 ((Q i).y)), .int .u64 (wv2 ((Q i).y)), .int .u64 (wv1 ((Q i).y)), .int .u64 (wv0 ((Q i).y)), .int .u64 (wv3 ((Q i).u)), .int .u64 (wv2 ((Q i).u)), .int .u64 (wv1 ((Q i).u)), .int .u64 (wv0 ((Q i).u)), .slice As12 ((Q i).es.length) cs13]) rfl (by kernel_rfl) .none ⟨h24, h25⟩ (fun _ s => dv_loadsR (l := [.int .u64 (wv3 ((Q i).x)), .int .u64 (wv2 ((Q i).x)), .int .u64 (wv1 ((Q i).x)), .int .u64 (wv0 ((Q i).x)), .int .u64 (wv3 ((Q i).y)), .int .u64 (wv2 ((Q i).y)), .int .u64 (wv1 ((Q i).y)), .int .u64 (wv0 ((Q i).y)), .int .u64 (wv3 ((Q i).u)), .int .u64 (wv2 ((Q i).u)), .int .u64 (wv1 ((Q i).u)), .int .u64 (wv0 ((Q i).u)), .slice As12 ((Q i).es.length) cs13]) agt52 sz52 (T rfl rfl) rfl (NR.evA (i := i) s.1 (by first | omega | (simp; done) | (simp; omega)) hAs14 hcs15)) ?_
     refine aw_pure 4 (.slice D l d) rfl (by kernel_rfl) .none ⟨h24, h25⟩ (fun _ => dv_move (T rfl f8)) ?_
     refine aw_pure 5 (.int .i64 ((i : Int))) rfl (by kernel_rfl) .none ⟨h24, h25⟩ (fun _ => dv_move (T rfl f9)) ?_
     obtain ⟨g28, o29, rfl⟩ := NR.at h25 (by first | omega | (simp; done) | (simp; omega))
     refine aw_pure 6 (.pointer (some ⟨g28, o29 + i * 13, none⟩)) rfl (by kernel_rfl) .none ⟨h24, h25⟩ (fun _ => dv_indexM (g := g28) (o := o29) (l := l) (c := d) (i := i) (j := (i : Int)) (m := 13) us46 sz52 (T rfl rfl) (T rfl rfl) (by omega) (by first | omega | (simp; done) | (simp; omega))) ?_
     refine aw_load 7 (.agg #[.int .u64 (wv3 ((Q i).x)), .int .u64 (wv2 ((Q i).x)), .int .u64 (wv1 ((Q i).x)), .int .u64 (wv0 ((Q i).x)), .int .u64 (wv3 ((Q i).y)), .int .u64 (wv2 ((Q i).y)), .int .u64 (wv1 ((Q i).y)), .int .u64 (wv0 ((Q i).y)), .int .u64 (wv3 ((Q i).u)), .int .u64 (wv2 ((Q i).u)), .int .u64 (wv1 ((Q i).u)), .int .u64 (wv0 ((Q i).u)), .slice As16 ((Q i).es.length) cs17]) rfl (by kernel_rfl) .none ⟨h24, h25⟩ (fun _ s => dv_loadsR (l := [.int .u64 (wv3 ((Q i).x)), .int .u64 (wv2 ((Q i).x)), .int .u64 (wv1 ((Q i).x)), .int .u64 (wv0 ((Q i).x)), .int .u64 (wv3 ((Q i).y)), .int .u64 (wv2 ((Q i).y)), .int .u64 (wv1 ((Q i).y)), .int .u64 (wv0 ((Q i).y)), .int .u64 (wv3 ((Q i).u)), .int .u64 (wv2 ((Q i).u)), .int .u64 (wv1 ((Q i).u)), .int .u64 (wv0 ((Q i).u)), .slice As16 ((Q i).es.length) cs17]) agt52 sz52 (T rfl rfl) rfl (NR.evA (i := i) s.2 (by first | omega | (simp; done) | (simp; omega)) hAs18 hcs19)) ?_
     refine aw_one 8 rfl (by kernel_rfl) .none (oe_callf (vs := [.agg #[.int .u64 (wv3 ((Q i).x)), .int .u64 (wv2 ((Q i).x)), .int .u64 (wv1 ((Q i).x)), .int .u64 (wv0 ((Q i).x)), .int .u64 (wv3 ((Q i).y)), .int .u64 (wv2 ((Q i).y)), .int .u64 (wv1 ((Q i).y)), .int .u64 (wv0 ((Q i).y)), .int .u64 (wv3 ((Q i).u)), .int .u64 (wv2 ((Q i).u)), .int .u64 (wv1 ((Q i).u)), .int .u64 (wv0 ((Q i).u)), .slice As12 ((Q i).es.length) cs13], .agg #[.int .u64 (wv3 ((Q i).x)), .int .u64 (wv2 ((Q i).x)), .int .u64 (wv1 ((Q i).x)), .int .u64 (wv0 ((Q i).x)), .int .u64 (wv3 ((Q i).y)), .int .u64 (wv2 ((Q i).y)), .int .u64 (wv1 ((Q i).y)), .int .u64 (wv0 ((Q i).y)), .int .u64 (wv3 ((Q i).u)), .int .u64 (wv2 ((Q i).u)), .int .u64 (wv1 ((Q i).u)), .int .u64 (wv0 ((Q i).u)), .slice As16 ((Q i).es.length) cs17]]) co22 (ar2 (T rfl rfl) (T rfl rfl)) (eqEvent_ok (c := cs13) (d := cs17) (evF.x hxf (i := i) (by omega)) (evF.y hxf (i := i) (by omega)) (evF.u hxf (i := i) (by omega)) (NR.rdA (i := i) h24 (by first | omega | (simp; done) | (simp; omega)) hAs14) (NR.rdA (i := i) h25 (by first | omega | (simp; done) | (simp; omega)) hAs18) (by first | rfl | omega) (by first | omega | (simp; done) | (simp; omega))) ?_)
     rintro _ w30 ⟨rfl, e31⟩
     have E32 := below_ext E23 E23.size e31
     have h33 := (h24.ext e31)
     have h34 := (h25.ext e31)
     refine ⟨.inr ⟨h33, h34⟩, ?_⟩
     refine aw_pure 9 (.bool false) rfl (by kernel_rfl) .none ⟨h33, h34⟩ (fun _ => dv_not (b := true) (T rfl rfl)) ?_
     refine aw_done (by kernel_rfl) ?_
     refine rk_cf (T rfl rfl) ?_
     refine rk_skip ?_
     refine rk_inBlock ?_
     refine rk_reg ?_
     refine lw_v (.int .i64 ((i : Int))) (dv_move (T rfl f9)) ?_
     refine lw_v (.int .i64 (((i : Int)) + 1)) (dv_add (a := (i : Int)) (b := 1) (z := ((i : Int)) + 1) (T rfl rfl) C (wr_i64 (by omega) (by omega))) ?_
     refine lw_v (.int .i64 (((i : Int)) + 1)) (dv_assign (T rfl rfl)) ?_
     refine lw_nil ?_
     exact ih4 (l - ((i + 1))) _ _ (by rw [hd11]; omega) ⟨(i + 1), rfl, f7, f8, (vi (by omega)), E32, (by omega)⟩
   · refine rk_cf (T rfl (congrArg Value.bool (decide_eq_false hb20))) ?_
     refine rk_exit rfl ?_
     refine rk_seq ?_
     refine rk_reg ?_
     refine lw_v (.bool true) (dv_assign C) ?_
     refine lw_nil ?_
     refine rk_ret Try.func19 (v := .bool true) (res1 Try.results19 (rv_tmp rfl rfl)) ⟨_, rfl, ?_⟩
     exact ⟨rfl, E10⟩
end Go.Proofs.Ytmbpomcbdopgnaa.W
