/- Walks and plain mathematics, packed by a program of this session: declarations that the rows reach. -/
import Derived.Test.YtmbpomcbdopgnaaGreatPsg
set_option linter.unusedVariables false
set_option linter.unusedSimpArgs false
namespace Go.Proofs.YtmbpomcbdopgnaaGreat.W
open Go Go.RowKit Go.Proofs.YtmbpomcbdopgnaaGreat.Fw
attribute [local irreducible] RunK LW AW DV OE Ct
theorem co61 : callOk Tryz.prog 61 = true := by kernel_rfl
theorem co68 : callOk Tryz.prog 68 = true := by kernel_rfl
theorem co69 : callOk Tryz.prog 69 = true := by kernel_rfl
theorem us102 : Tryz.prog.underlying 102 = some (.slice 77) := by kernel_rfl
set_option maxHeartbeats 1000000 in
theorem l1Gcd_ok {w : World} {na : Bool} {Aa : Option Addr} {la ca : Nat} {x : Int} {sx : Nat} (ha : Num 32 97 .u32 w na Aa la ca x sx) {nb : Bool} {Ab : Option Addr} {lb cb : Nat} {y : Int} {sy : Nat} (hb : Num 32 97 .u32 w nb Ab lb cb y sy) (hs : sx ≤ 200000) (hs2 : sy ≤ 200000) : Ct Tryz.prog 37 [.agg #[.bool na, .slice Aa la ca], .agg #[.bool nb, .slice Ab lb cb]] w fun v w1 => ∃ nr A' n c', v = .agg #[.bool nr, .slice A' n c'] ∧ Ext w w1 ∧ Num 32 97 .u32 w1 nr A' n c' (gI x y) (max sx sy) := by
 refine ct_run (n := 26) Tryz.func37 rfl Tryz.ntmps37 rfl ?_
 have E0 : Below w.heap.size w w := Below.refl _ _
 have lha := Num.len (by decide) ha
 have lhb := Num.len (by decide) hb
 refine rk_seq <| rk_reg <| lw_e (oe_box (v := .agg #[.bool na, .slice Aa la ca]) (cs := #[.bool na, .slice Aa la ca]) (T rfl rfl) rfl ?_)
 intro b1 w2 n3
 have N4 : w.heap.size ≤ b1 := n3.eq ▸ E0.size
 have E5 := below_ext E0 E0.size n3.ext
 refine lw_e (oe_box (v := .agg #[.bool nb, .slice Ab lb cb]) (cs := #[.bool nb, .slice Ab lb cb]) (T rfl rfl) rfl ?_)
 intro b6 w7 n8
 have N9 : w.heap.size ≤ b6 := n8.eq ▸ E5.size
 have : b1 < b6 := n8.eq ▸ lt_of_blk n3.blk
 have E10 := below_ext E5 E5.size n8.ext
 refine lw_e (oe_alloc ze51 ?_)
 intro b11 w12 n13
 have N14 : w.heap.size ≤ b11 := n13.eq ▸ E10.size
 have : b6 < b11 := n13.eq ▸ lt_of_blk n8.blk
 have E15 := below_ext E10 E10.size n13.ext
 refine qN <| lw_v (.pointer (some ⟨b1, 1, none⟩)) (dv_fieldAddr (a := ⟨b1, 0, none⟩) (a' := ⟨b1, 1, none⟩) fo51_1 (T rfl rfl) rfl) ?_
 have H16 := (n13.ext.blk (n8.ext.blk n3.blk))
 refine lw_v (.slice Aa la ca) (dv_load1 (b := b1) (o := 1) agt49 (T rfl rfl) H16 rfl) <| lw_v (.slice Aa la ca) (dv_assign (T rfl rfl)) <| qN <| lw_v (.pointer (some ⟨b6, 1, none⟩)) (dv_fieldAddr (a := ⟨b6, 0, none⟩) (a' := ⟨b6, 1, none⟩) fo51_1 (T rfl rfl) rfl) ?_
 have H17 := (n13.ext.blk n8.blk)
 refine lw_v (.slice Ab lb cb) (dv_load1 (b := b6) (o := 1) agt49 (T rfl rfl) H17 rfl) <| lw_v (.slice Ab lb cb) (dv_assign (T rfl rfl)) <| lw_nil <| rk_seq <| rk_block ?_
 have h26 := (((ha.ext n3.ext).ext n8.ext).ext n13.ext)
 have h27 := (((hb.ext n3.ext).ext n8.ext).ext n13.ext)
 refine rk_loop (fun dm_ fr wl => ∃ (Ax18 : Option Addr) (lx19 cx20 : Nat) (Ay21 : Option Addr) (ly22 cy23 : Nat) (X24 Y25 : Int), dm_ = Y25.toNat ∧ fr 4 = .pointer (some ⟨b11, 0, none⟩) ∧ fr 5 = .slice Ax18 lx19 cx20 ∧ fr 6 = .slice Ay21 ly22 cy23 ∧ Below w.heap.size w wl ∧ wl.heap[b1]? = some (.cells #[.bool na, .slice Aa la ca] 51) ∧ wl.heap[b6]? = some (.cells #[.bool nb, .slice Ab lb cb] 51) ∧ wl.heap[b11]? = some (.cells #[.bool false, .slice none 0 0] 51) ∧ Wc 32 97 .u32 wl Ax18 lx19 cx20 X24 ∧ Wc 32 97 .u32 wl Ay21 ly22 cy23 Y25 ∧ (gI X24 Y25 = gI (x.natAbs : Int) (y.natAbs : Int)) ∧ (X24 < 2 ^ (max sx sy)) ∧ (Y25 < 2 ^ (max sx sy))) ((y.natAbs : Int).toNat) ⟨Aa, la, ca, Ab, lb, cb, (x.natAbs : Int), (y.natAbs : Int), rfl, rfl, rfl, rfl, E15, H16, H17, n13.blk, h26.wc, h27.wc, rfl, (Int.lt_of_lt_of_le h26.ltI (pow_le_of (by decide) (by omega))), (Int.lt_of_lt_of_le h27.ltI (pow_le_of (by decide) (by omega)))⟩ ?_
 intro d32 fr31 w28 hI29 ih30
 obtain ⟨Ax18, lx19, cx20, Ay21, ly22, cy23, X24, Y25, hd42, f33, f34, f35, E36, H37, H38, H39, h40, h41, hgc, hXs, hYs⟩ := hI29
 have hXp := h40.nonneg
 have hYp := h41.pos
 have hYn := h41.nonneg
 have hlx := Wc.len (by decide) h40 hXs
 have hly := Wc.len (by decide) h41 hYs
 refine rk_seq <| rk_seq <| rk_reg <| lw_v (.slice Ay21 ly22 cy23) (dv_move (T rfl f35)) <| lw_v (qi (ly22 : Int)) (dv_len (ad := Ay21) (l := ly22) (c := cy23) us49 (T rfl rfl)) <| lw_v (qd (0 < (ly22 : Int))) (dv_gtr (a := (ly22 : Int)) (b := 0) (T rfl rfl) C) <| lw_nil ?_
 by_cases hb43 : 0 < ((ly22 : Int))
 · refine rk_ct (T rfl (qT hb43)) <| rk_skip <| rk_block <| rk_seq <| rk_reg <| lw_v (.slice Ax18 lx19 cx20) (dv_move (T rfl f34)) <| lw_v (.slice Ay21 ly22 cy23) (dv_move (T rfl f35)) <| lw_e (oe_callf (vs := [.slice Ax18 lx19 cx20, .slice Ay21 ly22 cy23]) co61 (ar2 (T rfl rfl) (T rfl rfl)) (l1DivAbs_ok h40 h41 (by omega) hXs hYs (by omega) (by omega)) ?_)
   rintro _ w52 ⟨A44, n45, c46, A47, n48, c49, rfl, e53, h50, h51⟩
   have E54 := below_ext E36 E36.size e53
   have lh50 := Wc.len (by decide) h50 (div_sz (Wc.nonneg h40) (by omega) hXs)
   have lh51 := Wc.len (by decide) h51 (mod_sz (by omega) hYs)
   refine lw_v (.tuple #[.slice A44 n45 c46, .slice A47 n48 c49]) (dv_move (T rfl rfl)) <| lw_v (.slice A44 n45 c46) (dv_extract (vs := #[.slice A44 n45 c46, .slice A47 n48 c49]) (T rfl rfl) rfl) <| lw_v (.slice A47 n48 c49) (dv_extract (vs := #[.slice A44 n45 c46, .slice A47 n48 c49]) (T rfl rfl) rfl) <| lw_v (.slice A44 n45 c46) (dv_assign (T rfl rfl)) <| lw_v (.slice A47 n48 c49) (dv_assign (T rfl rfl)) <| lw_nil <| rk_reg <| lw_v (.slice Ay21 ly22 cy23) (dv_move (T rfl f35)) <| lw_v (.slice A47 n48 c49) (dv_move (T rfl rfl)) <| lw_v (.slice Ay21 ly22 cy23) (dv_assign (T rfl rfl)) <| lw_v (.slice A47 n48 c49) (dv_assign (T rfl rfl)) ?_
   refine lw_nil <| rk_inBlock ?_
   have h55 := (h41.ext e53)
   have hml := Int.emod_lt_of_pos X24 (hYp.1 (by omega))
   have hmn := Int.emod_nonneg X24 (show Y25 ≠ 0 by omega)
   have H56 := (e53.blk H37)
   have H57 := (e53.blk H38)
   have H58 := (e53.blk H39)
   exact ih30 ((X24 % Y25).toNat) _ _ (by rw [hd42]; omega) ⟨Ay21, ly22, cy23, A47, n48, c49, Y25, (X24 % Y25), rfl, f33, rfl, rfl, E54, H56, H57, H58, h55, h51, (by rw [gI_step]; exact hgc), hYs, (by omega)⟩
 · refine rk_cf (T rfl (qF hb43)) <| rk_exit rfl <| rk_seq <| rk_reg <| lw_v (.slice Ax18 lx19 cx20) (dv_move (T rfl f34)) <| lw_e (oe_callf (vs := [.bool false, .slice Ax18 lx19 cx20]) co62 (ar2 C (T rfl rfl)) (l1Trim_num (s := (max sx sy)) (neg := false) h40.ws (by first | omega | (simp; done) | (simp; omega)) hXs) ?_)
   rintro _ w64 ⟨nb59, A60, n61, c62, rfl, e65, hn63⟩
   have E66 := below_ext E36 E36.size e65
   have lhn63 := Num.len (by decide) hn63
   have H67 := (e65.blk H39)
   refine lw_e (oe_store (v := .agg #[.bool nb59, .slice A60 n61 c62]) (vs := [.bool nb59, .slice A60 n61 c62]) (l := [.bool nb59, .slice A60 n61 c62]) (T rfl f33) (T rfl rfl) sz51 rfl rfl rfl H67 rfl ?_)
   intro w68 s69 H70
   have E71 := below_st E66 N14 s69
   refine lw_nil <| rk_ret Tryz.func37 (v := .agg #[.bool nb59, .slice A60 n61 c62]) (res1 Tryz.results37 (rv_cells (l := [.bool nb59, .slice A60 n61 c62]) agt51 sz51 rfl f33 H70 rfl)) ⟨_, rfl, ?_⟩
   have h72 := (hn63.st s69 H67 (by decide))
   have hY0 : Y25 = 0 := by omega
   rw [hY0, gI_zero, gI_abs] at hgc
   exact ⟨_, _, _, _, rfl, E71, h72.to (by simp only [sg]; simp; omega) (Nat.le_refl _)⟩
set_option maxHeartbeats 1000000 in
theorem gcd3_ok {w : World} {bl : Nat} {na : Bool} {Aa : Option Addr} {la ca : Nat} {x : Int} {sx : Nat} (ha : Num 64 23 .u64 w na Aa la ca x sx) {nb : Bool} {Ab : Option Addr} {lb cb : Nat} {y : Int} {sy : Nat} (hb : Num 64 23 .u64 w nb Ab lb cb y sy) {nm : Bool} {Am : Option Addr} {lm cm : Nat} {z : Int} {sz : Nat} (hm : Num 64 23 .u64 w nm Am lm cm z sz) (hsx : sx ≤ 200000) (hsy : sy ≤ 200000) (hsz : sz ≤ 200000) (hL : w.heap[bl]? = some (.cells #[.bool na, .slice Aa la ca, .bool nb, .slice Ab lb cb, .bool nm, .slice Am lm cm] 77)) : Ct Tryz.prog 47 [.slice (some ⟨bl, 0, none⟩) 3 3] w fun v w1 => ∃ nr A' n c', v = .agg #[.bool nr, .slice A' n c'] ∧ Ext w w1 ∧ Num 64 23 .u64 w1 nr A' n c' (gI3 x y z) (max sx (max sy sz)) := by
 refine ct_run (n := 37) Tryz.func47 rfl Tryz.ntmps47 rfl ?_
 have E0 : Below w.heap.size w w := Below.refl _ _
 have lha := Num.len (by decide) ha
 have lhb := Num.len (by decide) hb
 have lhm := Num.len (by decide) hm
 refine rk_seq <| rk_reg <| lw_e (oe_alloc ze77 ?_)
 intro b1 w2 n3
 have N4 : w.heap.size ≤ b1 := n3.eq ▸ E0.size
 have : bl < b1 := n3.eq ▸ lt_of_blk hL
 have E5 := below_ext E0 E0.size n3.ext
 refine qN <| lw_v (.agg #[.bool false, .slice none 0 0]) (dv_build (pv := []) (l := [.bool false, .slice none 0 0]) zc77 pl77 trivial rfl) <| lw_e (oe_alloc ze77 ?_)
 intro b6 w7 n8
 have N9 : w.heap.size ≤ b6 := n8.eq ▸ E5.size
 have : b1 < b6 := n8.eq ▸ lt_of_blk n3.blk
 have E10 := below_ext E5 E5.size n8.ext
 refine lw_e (oe_store (v := .agg #[.bool false, .slice none 0 0]) (vs := [.bool false, .slice none 0 0]) (l := [.bool false, .slice none 0 0]) (T rfl rfl) (T rfl rfl) sz77 rfl rfl rfl n8.blk rfl ?_)
 intro w11 s12 H13
 have E14 := below_st E10 N9 s12
 refine lw_nil <| rk_seq <| rk_seq <| rk_reg <| lw_v (.slice (some ⟨bl, 0, none⟩) 3 3) (dv_move (T rfl rfl)) <| lw_v (qi 3) (dv_len (ad := some ⟨bl, 0, none⟩) (l := 3) (c := 3) us102 (T rfl rfl)) <| lw_v (qi 0) (dv_move C) <| lw_nil <| rk_block <| rk_unroll <| rk_seq ?_
 refine rk_reg <| lw_v (qd (((0 : Int) < 3 : Prop))) (dv_lss (a := 0) (b := 3) (T rfl rfl) (T rfl rfl)) <| lw_nil <| rk_seq <| rk_ct (T rfl (rfl)) <| rk_skip <| rk_seq <| rk_block <| rk_seq <| rk_reg <| lw_v (.pointer (some ⟨bl, 0, none⟩)) (dv_indexAddr (a := ⟨bl, 0, none⟩) (a' := ⟨bl, 0, none⟩) (l := 3) (c := 3) (j := 0) us102 sz77 (T rfl rfl) (T rfl rfl) (by decide) (by decide) rfl) ?_
 have H15 := (s12.blk (n8.ext.blk (n3.ext.blk hL)) (by omega))
 refine lw_v (.agg #[.bool na, .slice Aa la ca]) (dv_loads (l := [.bool na, .slice Aa la ca]) agt77 sz77 (T rfl rfl) H15 rfl) <| lw_e (oe_alloc ze77 ?_)
 intro b16 w17 n18
 have N19 : w.heap.size ≤ b16 := n18.eq ▸ E14.size
 have : b6 < b16 := n18.eq ▸ lt_of_blk H13
 have E20 := below_ext E14 E14.size n18.ext
 refine lw_e (oe_store (v := .agg #[.bool na, .slice Aa la ca]) (vs := [.bool na, .slice Aa la ca]) (l := [.bool na, .slice Aa la ca]) (T rfl rfl) (T rfl rfl) sz77 rfl rfl rfl n18.blk rfl ?_)
 intro w21 s22 H23
 have E24 := below_st E20 N19 s22
 refine lw_nil <| rk_seq <| rk_any (fun w => w.heap[b6]? = some (.cells #[.bool false, .slice none 0 0] 77) ∧ w.heap[b16]? = some (.cells #[.bool na, .slice Aa la ca] 77)) [5] mo ?_
 intro w25 d26
 have E27 := below_ext E24 E24.size d26.ext
 have H28 := (d26.ext.blk (s22.blk (n18.ext.blk H13) (by omega)))
 have H29 := (d26.ext.blk H23)
 refine aw_pure 0 (.pointer (some ⟨b6, 1, none⟩)) rfl (by kernel_rfl) .none ⟨H28, H29⟩ (fun _ => dv_fieldAddr (a := ⟨b6, 0, none⟩) (a' := ⟨b6, 1, none⟩) fo77_1 (T rfl rfl) rfl) <| aw_load 1 (.slice none 0 0) rfl (by kernel_rfl) .none ⟨H28, H29⟩ (fun _ s => dv_load1 (b := b6) (o := 1) agt75 (T rfl rfl) s.1 rfl) <| aw_pure 2 (.pointer (some ⟨b16, 1, none⟩)) rfl (by kernel_rfl) .none ⟨H28, H29⟩ (fun _ => dv_fieldAddr (a := ⟨b16, 0, none⟩) (a' := ⟨b16, 1, none⟩) fo77_1 (T rfl rfl) rfl) <| aw_load 3 (.slice Aa la ca) rfl (by kernel_rfl) .none ⟨H28, H29⟩ (fun _ s => dv_load1 (b := b16) (o := 1) agt75 (T rfl rfl) s.2 rfl) <| aw_pure 4 (.slice none 0 0) rfl (by kernel_rfl) .none ⟨H28, H29⟩ (fun _ => dv_assign (T rfl rfl)) <| aw_last 5 (.slice Aa la ca) rfl (by kernel_rfl) .none (fun _ => dv_assign (T rfl rfl)) <| aw_done (by kernel_rfl) <| rk_seq <| rk_block ?_
 have h38 := ha.ext E27
 have H39 := (d26.ext.blk (s22.blk (n18.ext.blk H15) (by omega)))
 have H40 := (d26.ext.blk (s22.blk (n18.ext.blk (s12.blk (n8.ext.blk n3.blk) (by omega))) (by omega)))
 refine rk_loop (fun dm_ fr wl => ∃ (Ax30 : Option Addr) (lx31 cx32 : Nat) (Ay33 : Option Addr) (ly34 cy35 : Nat) (X36 Y37 : Int), dm_ = Y37.toNat ∧ fr 2 = .pointer (some ⟨b1, 0, none⟩) ∧ fr 3 = .pointer (some ⟨b6, 0, none⟩) ∧ fr 5 = .pointer (some ⟨b16, 0, none⟩) ∧ fr 6 = .slice Ax30 lx31 cx32 ∧ fr 7 = .slice Ay33 ly34 cy35 ∧ fr 11 = .slice (some ⟨bl, 0, none⟩) 3 3 ∧ fr 12 = qi 3 ∧ fr 13 = qi 0 ∧ fr 14 = qd (((0 : Int) < 3 : Prop)) ∧ fr 15 = .pointer (some ⟨bl, 0, none⟩) ∧ fr 16 = .agg #[.bool na, .slice Aa la ca] ∧ fr 17 = .pointer (some ⟨b6, 1, none⟩) ∧ fr 18 = .slice none 0 0 ∧ fr 19 = .pointer (some ⟨b16, 1, none⟩) ∧ fr 20 = .slice Aa la ca ∧ Below w.heap.size w wl ∧ wl.heap[bl]? = some (.cells #[.bool na, .slice Aa la ca, .bool nb, .slice Ab lb cb, .bool nm, .slice Am lm cm] 77) ∧ wl.heap[b1]? = some (.cells #[.bool false, .slice none 0 0] 77) ∧ wl.heap[b6]? = some (.cells #[.bool false, .slice none 0 0] 77) ∧ wl.heap[b16]? = some (.cells #[.bool na, .slice Aa la ca] 77) ∧ Wc 64 23 .u64 wl Ax30 lx31 cx32 X36 ∧ Wc 64 23 .u64 wl Ay33 ly34 cy35 Y37 ∧ (gI X36 Y37 = gI 0 (x.natAbs : Int)) ∧ (X36 < 2 ^ (max sx (max sy sz))) ∧ (Y37 < 2 ^ (max sx (max sy sz)))) ((x.natAbs : Int).toNat) ⟨none, 0, 0, Aa, la, ca, 0, (x.natAbs : Int), rfl, rfl, rfl, rfl, rfl, rfl, rfl, rfl, rfl, rfl, rfl, rfl, rfl, rfl, rfl, rfl, E27, H39, H40, H28, H29, Wc.zero, h38.wc, rfl, (two_pos _), (Int.lt_of_lt_of_le h38.ltI (pow_le_of (by decide) (by omega)))⟩ ?_
 intro d45 fr44 w41 hI42 ih43
 obtain ⟨Ax30, lx31, cx32, Ay33, ly34, cy35, X36, Y37, hd68, f46, f47, f48, f49, f50, f51, f52, f53, f54, f55, f56, f57, f58, f59, f60, E61, H62, H63, H64, H65, h66, h67, hgc, hXs, hYs⟩ := hI42
 have hXp := h66.nonneg
 have hYp := h67.pos
 have hYn := h67.nonneg
 have hlx := Wc.len (by decide) h66 hXs
 have hly := Wc.len (by decide) h67 hYs
 refine rk_seq <| rk_seq <| rk_reg <| lw_v (.slice Ay33 ly34 cy35) (dv_move (T rfl f50)) <| lw_v (qi (ly34 : Int)) (dv_len (ad := Ay33) (l := ly34) (c := cy35) us75 (T rfl rfl)) <| lw_v (qd (0 < (ly34 : Int))) (dv_gtr (a := (ly34 : Int)) (b := 0) (T rfl rfl) C) <| lw_nil ?_
 by_cases hb69 : 0 < ((ly34 : Int))
 · refine rk_ct (T rfl (qT hb69)) <| rk_skip <| rk_block <| rk_seq <| rk_reg <| lw_v (.slice Ax30 lx31 cx32) (dv_move (T rfl f49)) <| lw_v (.slice Ay33 ly34 cy35) (dv_move (T rfl f50)) <| lw_e (oe_callf (vs := [.slice Ax30 lx31 cx32, .slice Ay33 ly34 cy35]) co68 (ar2 (T rfl rfl) (T rfl rfl)) (divWords_ok h66 h67 (by omega) (by first | omega | (simp; done) | (simp; omega)) (by first | omega | (simp; done) | (simp; omega))) ?_)
   rintro _ w78 ⟨A70, n71, c72, A73, n74, c75, rfl, e79, h76, h77⟩
   have E80 := below_ext E61 E61.size e79
   have lh76 := Wc.len (by decide) h76 (div_sz (Wc.nonneg h66) (by omega) hXs)
   have lh77 := Wc.len (by decide) h77 (mod_sz (by omega) hYs)
   refine lw_v (.tuple #[.slice A70 n71 c72, .slice A73 n74 c75]) (dv_move (T rfl rfl)) <| lw_v (.slice A70 n71 c72) (dv_extract (vs := #[.slice A70 n71 c72, .slice A73 n74 c75]) (T rfl rfl) rfl) <| lw_v (.slice A73 n74 c75) (dv_extract (vs := #[.slice A70 n71 c72, .slice A73 n74 c75]) (T rfl rfl) rfl) <| lw_v (.slice A70 n71 c72) (dv_assign (T rfl rfl)) <| lw_v (.slice A73 n74 c75) (dv_assign (T rfl rfl)) <| lw_nil <| rk_reg <| lw_v (.slice Ay33 ly34 cy35) (dv_move (T rfl f50)) <| lw_v (.slice A73 n74 c75) (dv_move (T rfl rfl)) ?_
   obtain ⟨xs81, hl82, hc83, hw84, ho85, hk86, hv87⟩ := h77
   have H88 := (e79.blk H62)
   have : bl < w78.heap.size := lt_of_blk H88
   have H89 := (e79.blk H63)
   have : b1 < w78.heap.size := lt_of_blk H89
   have H90 := (e79.blk H64)
   have : b6 < w78.heap.size := lt_of_blk H90
   have H91 := (e79.blk H65)
   have : b16 < w78.heap.size := lt_of_blk H91
   have N92 : w.heap.size ≤ w78.heap.size := E80.size
   refine lw_e (oe_callf (vs := [.slice A73 n74 c75]) co69 (ar1 (T rfl rfl)) (clone_ok hw84 hl82 (by first | omega | (simp; done) | (simp; omega))) ?_)
   rintro _ w96 ⟨Ad93, c94, rfl, e97, hO95⟩
   have E98 := below_ext E80 E80.size e97
   refine lw_v (.slice Ay33 ly34 cy35) (dv_assign (T rfl rfl)) <| lw_v (.slice Ad93 (xs81.length) c94) (dv_assign (T rfl rfl)) <| lw_nil <| rk_inBlock ?_
   have h99 := ((h67.ext e79).ext e97)
   have hml := Int.emod_lt_of_pos X36 (hYp.1 (by omega))
   have hmn := Int.emod_nonneg X36 (show Y37 ≠ 0 by omega)
   have H100 := (e97.blk H88)
   have H101 := (e97.blk H89)
   have H102 := (e97.blk H90)
   have H103 := (e97.blk H91)
   exact ih43 ((X36 % Y37).toNat) _ _ (by rw [hd68]; omega) ⟨Ay33, ly34, cy35, Ad93, xs81.length, c94, Y37, (X36 % Y37), rfl, f46, f47, f48, rfl, rfl, f51, f52, f53, f54, f55, f56, f57, f58, f59, f60, E98, H100, H101, H102, H103, h99, ⟨xs81, rfl, hO95.cap, hO95.wd, ho85, hk86, hv87⟩, (by rw [gI_step]; exact hgc), hYs, (by omega)⟩
 · refine rk_cf (T rfl (qF hb69)) <| rk_exit rfl ?_
   have hY0 : Y37 = 0 := by omega
   rw [hY0, gI_zero] at hgc
   have hr104 : X36 = (x.natAbs : Int) := (by have h := hgc; rw [gI_zl] at h; (try simp at h); omega)
   have hw105 := Wc.eq h66 hr104
   have hq106 : (x.natAbs : Int) < 2 ^ (max sx (max sy sz)) := by rw [← hr104]; exact hXs
   refine rk_reg <| lw_v (.slice Ax30 lx31 cx32) (dv_move (T rfl f49)) <| lw_v (.agg #[.bool false, .slice Ax30 lx31 cx32]) (dv_build (pv := [(0, .bool false), (1, .slice Ax30 lx31 cx32)]) (l := [.bool false, .slice Ax30 lx31 cx32]) zc77 pl77 ⟨rfl, C, ⟨rfl, (T rfl rfl), trivial⟩⟩ rfl) <| lw_e (oe_store (v := .agg #[.bool false, .slice Ax30 lx31 cx32]) (vs := [.bool false, .slice Ax30 lx31 cx32]) (l := [.bool false, .slice Ax30 lx31 cx32]) (T rfl f47) (T rfl rfl) sz77 rfl rfl rfl H64 rfl ?_)
   intro w107 s108 H109
   have E110 := below_st E61 N9 s108
   refine lw_nil <| rk_inBlock <| rk_reg <| lw_v (qi 1) (dv_add (a := 0) (b := 1) (z := 1) (T rfl f53) C (by decide)) <| lw_v (qi 1) (dv_move (T rfl rfl)) <| lw_nil <| rk_inLoop <| rk_seq <| rk_reg <| lw_v (qd (((1 : Int) < 3 : Prop))) (dv_lss (a := 1) (b := 3) (T rfl rfl) (T rfl f52)) <| lw_nil ?_
   refine rk_seq <| rk_ct (T rfl (rfl)) <| rk_skip <| rk_seq <| rk_block <| rk_seq <| rk_reg <| lw_v (.pointer (some ⟨bl, 2, none⟩)) (dv_indexAddr (a := ⟨bl, 0, none⟩) (a' := ⟨bl, 2, none⟩) (l := 3) (c := 3) (j := 1) us102 sz77 (T rfl f51) (T rfl rfl) (by decide) (by decide) rfl) ?_
   have H111 := (s108.blk H62 (by omega))
   refine lw_v (.agg #[.bool nb, .slice Ab lb cb]) (dv_loads (l := [.bool nb, .slice Ab lb cb]) agt77 sz77 (T rfl rfl) H111 rfl) <| lw_e (oe_alloc ze77 ?_)
   intro b112 w113 n114
   have N115 : w.heap.size ≤ b112 := n114.eq ▸ E110.size
   have H116 := (s108.blk H65 (by omega))
   have : b16 < b112 := n114.eq ▸ lt_of_blk H116
   have E117 := below_ext E110 E110.size n114.ext
   refine lw_e (oe_store (v := .agg #[.bool nb, .slice Ab lb cb]) (vs := [.bool nb, .slice Ab lb cb]) (l := [.bool nb, .slice Ab lb cb]) (T rfl rfl) (T rfl rfl) sz77 rfl rfl rfl n114.blk rfl ?_)
   intro w118 s119 H120
   have E121 := below_st E117 N115 s119
   refine lw_nil <| rk_seq <| rk_any (fun w => w.heap[b6]? = some (.cells #[.bool false, .slice Ax30 lx31 cx32] 77) ∧ w.heap[b112]? = some (.cells #[.bool nb, .slice Ab lb cb] 77)) [5] mo ?_
   intro w122 d123
   have E124 := below_ext E121 E121.size d123.ext
   have H125 := (d123.ext.blk (s119.blk (n114.ext.blk H109) (by omega)))
   have H126 := (d123.ext.blk H120)
   refine aw_pure 0 (.pointer (some ⟨b6, 1, none⟩)) rfl (by kernel_rfl) .none ⟨H125, H126⟩ (fun _ => dv_fieldAddr (a := ⟨b6, 0, none⟩) (a' := ⟨b6, 1, none⟩) fo77_1 (T rfl f47) rfl) <| aw_load 1 (.slice Ax30 lx31 cx32) rfl (by kernel_rfl) .none ⟨H125, H126⟩ (fun _ s => dv_load1 (b := b6) (o := 1) agt75 (T rfl rfl) s.1 rfl) <| aw_pure 2 (.pointer (some ⟨b112, 1, none⟩)) rfl (by kernel_rfl) .none ⟨H125, H126⟩ (fun _ => dv_fieldAddr (a := ⟨b112, 0, none⟩) (a' := ⟨b112, 1, none⟩) fo77_1 (T rfl rfl) rfl) <| aw_load 3 (.slice Ab lb cb) rfl (by kernel_rfl) .none ⟨H125, H126⟩ (fun _ s => dv_load1 (b := b112) (o := 1) agt75 (T rfl rfl) s.2 rfl) <| aw_pure 4 (.slice Ax30 lx31 cx32) rfl (by kernel_rfl) .none ⟨H125, H126⟩ (fun _ => dv_assign (T rfl rfl)) <| aw_last 5 (.slice Ab lb cb) rfl (by kernel_rfl) .none (fun _ => dv_assign (T rfl rfl)) <| aw_done (by kernel_rfl) <| rk_seq <| rk_block ?_
   have h135 := ((((hw105.st s108 H64 (by decide)).ext n114.ext).st s119 n114.blk (by decide)).ext d123.ext)
   have h136 := hb.ext E124
   have H137 := (d123.ext.blk (s119.blk (n114.ext.blk H111) (by omega)))
   have H138 := (d123.ext.blk (s119.blk (n114.ext.blk (s108.blk H63 (by omega))) (by omega)))
   have H139 := (d123.ext.blk (s119.blk (n114.ext.blk H116) (by omega)))
   refine rk_loop (fun dm_ fr wl => ∃ (Ax127 : Option Addr) (lx128 cx129 : Nat) (Ay130 : Option Addr) (ly131 cy132 : Nat) (X133 Y134 : Int), dm_ = Y134.toNat ∧ fr 2 = .pointer (some ⟨b1, 0, none⟩) ∧ fr 3 = .pointer (some ⟨b6, 0, none⟩) ∧ fr 5 = .pointer (some ⟨b112, 0, none⟩) ∧ fr 6 = .slice Ax127 lx128 cx129 ∧ fr 7 = .slice Ay130 ly131 cy132 ∧ fr 11 = .slice (some ⟨bl, 0, none⟩) 3 3 ∧ fr 12 = qi 3 ∧ fr 13 = qi 1 ∧ fr 14 = qd (((1 : Int) < 3 : Prop)) ∧ fr 15 = .pointer (some ⟨bl, 2, none⟩) ∧ fr 16 = .agg #[.bool nb, .slice Ab lb cb] ∧ fr 17 = .pointer (some ⟨b6, 1, none⟩) ∧ fr 18 = .slice Ax30 lx31 cx32 ∧ fr 19 = .pointer (some ⟨b112, 1, none⟩) ∧ fr 20 = .slice Ab lb cb ∧ fr 33 = .slice Ax30 lx31 cx32 ∧ fr 34 = .agg #[.bool false, .slice Ax30 lx31 cx32] ∧ fr 35 = qi 1 ∧ Below w.heap.size w wl ∧ wl.heap[bl]? = some (.cells #[.bool na, .slice Aa la ca, .bool nb, .slice Ab lb cb, .bool nm, .slice Am lm cm] 77) ∧ wl.heap[b1]? = some (.cells #[.bool false, .slice none 0 0] 77) ∧ wl.heap[b6]? = some (.cells #[.bool false, .slice Ax30 lx31 cx32] 77) ∧ wl.heap[b16]? = some (.cells #[.bool na, .slice Aa la ca] 77) ∧ wl.heap[b112]? = some (.cells #[.bool nb, .slice Ab lb cb] 77) ∧ Wc 64 23 .u64 wl Ax127 lx128 cx129 X133 ∧ Wc 64 23 .u64 wl Ay130 ly131 cy132 Y134 ∧ (gI X133 Y134 = gI (x.natAbs : Int) (y.natAbs : Int)) ∧ (X133 < 2 ^ (max sx (max sy sz))) ∧ (Y134 < 2 ^ (max sx (max sy sz)))) ((y.natAbs : Int).toNat) ⟨Ax30, lx31, cx32, Ab, lb, cb, (x.natAbs : Int), (y.natAbs : Int), rfl, f46, f47, rfl, rfl, rfl, f51, f52, rfl, rfl, rfl, rfl, rfl, rfl, rfl, rfl, rfl, rfl, rfl, E124, H137, H138, H125, H139, H126, h135, h136.wc, rfl, hq106, (Int.lt_of_lt_of_le h136.ltI (pow_le_of (by decide) (by omega)))⟩ ?_
   intro d144 fr143 w140 hI141 ih142
   obtain ⟨Ax127, lx128, cx129, Ay130, ly131, cy132, X133, Y134, hd171, f145, f146, f147, f148, f149, f150, f151, f152, f153, f154, f155, f156, f157, f158, f159, f160, f161, f162, E163, H164, H165, H166, H167, H168, h169, h170, hgc, hXs, hYs⟩ := hI141
   have hXp := h169.nonneg
   have hYp := h170.pos
   have hYn := h170.nonneg
   have hlx := Wc.len (by decide) h169 hXs
   have hly := Wc.len (by decide) h170 hYs
   refine rk_seq <| rk_seq <| rk_reg <| lw_v (.slice Ay130 ly131 cy132) (dv_move (T rfl f149)) <| lw_v (qi (ly131 : Int)) (dv_len (ad := Ay130) (l := ly131) (c := cy132) us75 (T rfl rfl)) <| lw_v (qd (0 < (ly131 : Int))) (dv_gtr (a := (ly131 : Int)) (b := 0) (T rfl rfl) C) <| lw_nil ?_
   by_cases hb172 : 0 < ((ly131 : Int))
   · refine rk_ct (T rfl (qT hb172)) <| rk_skip <| rk_block <| rk_seq <| rk_reg <| lw_v (.slice Ax127 lx128 cx129) (dv_move (T rfl f148)) <| lw_v (.slice Ay130 ly131 cy132) (dv_move (T rfl f149)) <| lw_e (oe_callf (vs := [.slice Ax127 lx128 cx129, .slice Ay130 ly131 cy132]) co68 (ar2 (T rfl rfl) (T rfl rfl)) (divWords_ok h169 h170 (by omega) (by first | omega | (simp; done) | (simp; omega)) (by first | omega | (simp; done) | (simp; omega))) ?_)
     rintro _ w181 ⟨A173, n174, c175, A176, n177, c178, rfl, e182, h179, h180⟩
     have E183 := below_ext E163 E163.size e182
     have lh179 := Wc.len (by decide) h179 (div_sz (Wc.nonneg h169) (by omega) hXs)
     have lh180 := Wc.len (by decide) h180 (mod_sz (by omega) hYs)
     refine lw_v (.tuple #[.slice A173 n174 c175, .slice A176 n177 c178]) (dv_move (T rfl rfl)) <| lw_v (.slice A173 n174 c175) (dv_extract (vs := #[.slice A173 n174 c175, .slice A176 n177 c178]) (T rfl rfl) rfl) <| lw_v (.slice A176 n177 c178) (dv_extract (vs := #[.slice A173 n174 c175, .slice A176 n177 c178]) (T rfl rfl) rfl) <| lw_v (.slice A173 n174 c175) (dv_assign (T rfl rfl)) <| lw_v (.slice A176 n177 c178) (dv_assign (T rfl rfl)) <| lw_nil <| rk_reg <| lw_v (.slice Ay130 ly131 cy132) (dv_move (T rfl f149)) <| lw_v (.slice A176 n177 c178) (dv_move (T rfl rfl)) ?_
     obtain ⟨xs184, hl185, hc186, hw187, ho188, hk189, hv190⟩ := h180
     have H191 := (e182.blk H164)
     have : bl < w181.heap.size := lt_of_blk H191
     have H192 := (e182.blk H165)
     have : b1 < w181.heap.size := lt_of_blk H192
     have H193 := (e182.blk H166)
     have : b6 < w181.heap.size := lt_of_blk H193
     have H194 := (e182.blk H167)
     have : b16 < w181.heap.size := lt_of_blk H194
     have H195 := (e182.blk H168)
     have : b112 < w181.heap.size := lt_of_blk H195
     have N196 : w.heap.size ≤ w181.heap.size := E183.size
     refine lw_e (oe_callf (vs := [.slice A176 n177 c178]) co69 (ar1 (T rfl rfl)) (clone_ok hw187 hl185 (by first | omega | (simp; done) | (simp; omega))) ?_)
     rintro _ w200 ⟨Ad197, c198, rfl, e201, hO199⟩
     have E202 := below_ext E183 E183.size e201
     refine lw_v (.slice Ay130 ly131 cy132) (dv_assign (T rfl rfl)) <| lw_v (.slice Ad197 (xs184.length) c198) (dv_assign (T rfl rfl)) <| lw_nil <| rk_inBlock ?_
     have h203 := ((h170.ext e182).ext e201)
     have hml := Int.emod_lt_of_pos X133 (hYp.1 (by omega))
     have hmn := Int.emod_nonneg X133 (show Y134 ≠ 0 by omega)
     have H204 := (e201.blk H191)
     have H205 := (e201.blk H192)
     have H206 := (e201.blk H193)
     have H207 := (e201.blk H194)
     have H208 := (e201.blk H195)
     exact ih142 ((X133 % Y134).toNat) _ _ (by rw [hd171]; omega) ⟨Ay130, ly131, cy132, Ad197, xs184.length, c198, Y134, (X133 % Y134), rfl, f145, f146, f147, rfl, rfl, f150, f151, f152, f153, f154, f155, f156, f157, f158, f159, f160, f161, f162, E202, H204, H205, H206, H207, H208, h203, ⟨xs184, rfl, hO199.cap, hO199.wd, ho188, hk189, hv190⟩, (by rw [gI_step]; exact hgc), hYs, (by omega)⟩
   · refine rk_cf (T rfl (qF hb172)) <| rk_exit rfl ?_
     have hY0 : Y134 = 0 := by omega
     rw [hY0, gI_zero] at hgc
     have hr209 : X133 = gI x y := (by have h := hgc; rw [gI_abs] at h; (try simp at h); omega)
     have hw210 := Wc.eq h169 hr209
     have hq211 : gI x y < 2 ^ (max sx (max sy sz)) := by rw [← hr209]; exact hXs
     refine rk_reg <| lw_v (.slice Ax127 lx128 cx129) (dv_move (T rfl f148)) <| lw_v (.agg #[.bool false, .slice Ax127 lx128 cx129]) (dv_build (pv := [(0, .bool false), (1, .slice Ax127 lx128 cx129)]) (l := [.bool false, .slice Ax127 lx128 cx129]) zc77 pl77 ⟨rfl, C, ⟨rfl, (T rfl rfl), trivial⟩⟩ rfl) <| lw_e (oe_store (v := .agg #[.bool false, .slice Ax127 lx128 cx129]) (vs := [.bool false, .slice Ax127 lx128 cx129]) (l := [.bool false, .slice Ax127 lx128 cx129]) (T rfl f146) (T rfl rfl) sz77 rfl rfl rfl H166 rfl ?_)
     intro w212 s213 H214
     have E215 := below_st E163 N9 s213
     refine lw_nil <| rk_inBlock <| rk_reg <| lw_v (qi 2) (dv_add (a := 1) (b := 1) (z := 2) (T rfl f152) C (by decide)) <| lw_v (qi 2) (dv_move (T rfl rfl)) <| lw_nil <| rk_inLoop <| rk_seq <| rk_reg <| lw_v (qd (((2 : Int) < 3 : Prop))) (dv_lss (a := 2) (b := 3) (T rfl rfl) (T rfl f151)) <| lw_nil ?_
     refine rk_seq <| rk_ct (T rfl (rfl)) <| rk_skip <| rk_seq <| rk_block <| rk_seq <| rk_reg <| lw_v (.pointer (some ⟨bl, 4, none⟩)) (dv_indexAddr (a := ⟨bl, 0, none⟩) (a' := ⟨bl, 4, none⟩) (l := 3) (c := 3) (j := 2) us102 sz77 (T rfl f150) (T rfl rfl) (by decide) (by decide) rfl) ?_
     have H216 := (s213.blk H164 (by omega))
     refine lw_v (.agg #[.bool nm, .slice Am lm cm]) (dv_loads (l := [.bool nm, .slice Am lm cm]) agt77 sz77 (T rfl rfl) H216 rfl) <| lw_e (oe_alloc ze77 ?_)
     intro b217 w218 n219
     have N220 : w.heap.size ≤ b217 := n219.eq ▸ E215.size
     have H221 := (s213.blk H168 (by omega))
     have : b112 < b217 := n219.eq ▸ lt_of_blk H221
     have E222 := below_ext E215 E215.size n219.ext
     refine lw_e (oe_store (v := .agg #[.bool nm, .slice Am lm cm]) (vs := [.bool nm, .slice Am lm cm]) (l := [.bool nm, .slice Am lm cm]) (T rfl rfl) (T rfl rfl) sz77 rfl rfl rfl n219.blk rfl ?_)
     intro w223 s224 H225
     have E226 := below_st E222 N220 s224
     refine lw_nil <| rk_seq <| rk_any (fun w => w.heap[b6]? = some (.cells #[.bool false, .slice Ax127 lx128 cx129] 77) ∧ w.heap[b217]? = some (.cells #[.bool nm, .slice Am lm cm] 77)) [5] mo ?_
     intro w227 d228
     have E229 := below_ext E226 E226.size d228.ext
     have H230 := (d228.ext.blk (s224.blk (n219.ext.blk H214) (by omega)))
     have H231 := (d228.ext.blk H225)
     refine aw_pure 0 (.pointer (some ⟨b6, 1, none⟩)) rfl (by kernel_rfl) .none ⟨H230, H231⟩ (fun _ => dv_fieldAddr (a := ⟨b6, 0, none⟩) (a' := ⟨b6, 1, none⟩) fo77_1 (T rfl f146) rfl) <| aw_load 1 (.slice Ax127 lx128 cx129) rfl (by kernel_rfl) .none ⟨H230, H231⟩ (fun _ s => dv_load1 (b := b6) (o := 1) agt75 (T rfl rfl) s.1 rfl) <| aw_pure 2 (.pointer (some ⟨b217, 1, none⟩)) rfl (by kernel_rfl) .none ⟨H230, H231⟩ (fun _ => dv_fieldAddr (a := ⟨b217, 0, none⟩) (a' := ⟨b217, 1, none⟩) fo77_1 (T rfl rfl) rfl) <| aw_load 3 (.slice Am lm cm) rfl (by kernel_rfl) .none ⟨H230, H231⟩ (fun _ s => dv_load1 (b := b217) (o := 1) agt75 (T rfl rfl) s.2 rfl) <| aw_pure 4 (.slice Ax127 lx128 cx129) rfl (by kernel_rfl) .none ⟨H230, H231⟩ (fun _ => dv_assign (T rfl rfl)) <| aw_last 5 (.slice Am lm cm) rfl (by kernel_rfl) .none (fun _ => dv_assign (T rfl rfl)) <| aw_done (by kernel_rfl) <| rk_seq <| rk_block ?_
     have h240 := ((((hw210.st s213 H166 (by decide)).ext n219.ext).st s224 n219.blk (by decide)).ext d228.ext)
     have h241 := hm.ext E229
     have H242 := (d228.ext.blk (s224.blk (n219.ext.blk H216) (by omega)))
     have H243 := (d228.ext.blk (s224.blk (n219.ext.blk (s213.blk H165 (by omega))) (by omega)))
     have H244 := (d228.ext.blk (s224.blk (n219.ext.blk (s213.blk H167 (by omega))) (by omega)))
     have H245 := (d228.ext.blk (s224.blk (n219.ext.blk H221) (by omega)))
     refine rk_loop (fun dm_ fr wl => ∃ (Ax232 : Option Addr) (lx233 cx234 : Nat) (Ay235 : Option Addr) (ly236 cy237 : Nat) (X238 Y239 : Int), dm_ = Y239.toNat ∧ fr 2 = .pointer (some ⟨b1, 0, none⟩) ∧ fr 3 = .pointer (some ⟨b6, 0, none⟩) ∧ fr 5 = .pointer (some ⟨b217, 0, none⟩) ∧ fr 6 = .slice Ax232 lx233 cx234 ∧ fr 7 = .slice Ay235 ly236 cy237 ∧ fr 11 = .slice (some ⟨bl, 0, none⟩) 3 3 ∧ fr 12 = qi 3 ∧ fr 13 = qi 2 ∧ fr 14 = qd (((2 : Int) < 3 : Prop)) ∧ fr 15 = .pointer (some ⟨bl, 4, none⟩) ∧ fr 16 = .agg #[.bool nm, .slice Am lm cm] ∧ fr 17 = .pointer (some ⟨b6, 1, none⟩) ∧ fr 18 = .slice Ax127 lx128 cx129 ∧ fr 19 = .pointer (some ⟨b217, 1, none⟩) ∧ fr 20 = .slice Am lm cm ∧ fr 33 = .slice Ax127 lx128 cx129 ∧ fr 34 = .agg #[.bool false, .slice Ax127 lx128 cx129] ∧ fr 35 = qi 2 ∧ Below w.heap.size w wl ∧ wl.heap[bl]? = some (.cells #[.bool na, .slice Aa la ca, .bool nb, .slice Ab lb cb, .bool nm, .slice Am lm cm] 77) ∧ wl.heap[b1]? = some (.cells #[.bool false, .slice none 0 0] 77) ∧ wl.heap[b6]? = some (.cells #[.bool false, .slice Ax127 lx128 cx129] 77) ∧ wl.heap[b16]? = some (.cells #[.bool na, .slice Aa la ca] 77) ∧ wl.heap[b112]? = some (.cells #[.bool nb, .slice Ab lb cb] 77) ∧ wl.heap[b217]? = some (.cells #[.bool nm, .slice Am lm cm] 77) ∧ Wc 64 23 .u64 wl Ax232 lx233 cx234 X238 ∧ Wc 64 23 .u64 wl Ay235 ly236 cy237 Y239 ∧ (gI X238 Y239 = gI (gI x y) (z.natAbs : Int)) ∧ (X238 < 2 ^ (max sx (max sy sz))) ∧ (Y239 < 2 ^ (max sx (max sy sz)))) ((z.natAbs : Int).toNat) ⟨Ax127, lx128, cx129, Am, lm, cm, (gI x y), (z.natAbs : Int), rfl, f145, f146, rfl, rfl, rfl, f150, f151, rfl, rfl, rfl, rfl, rfl, rfl, rfl, rfl, rfl, rfl, rfl, E229, H242, H243, H230, H244, H245, H231, h240, h241.wc, rfl, hq211, (Int.lt_of_lt_of_le h241.ltI (pow_le_of (by decide) (by omega)))⟩ ?_
     intro d250 fr249 w246 hI247 ih248
     obtain ⟨Ax232, lx233, cx234, Ay235, ly236, cy237, X238, Y239, hd278, f251, f252, f253, f254, f255, f256, f257, f258, f259, f260, f261, f262, f263, f264, f265, f266, f267, f268, E269, H270, H271, H272, H273, H274, H275, h276, h277, hgc, hXs, hYs⟩ := hI247
     have hXp := h276.nonneg
     have hYp := h277.pos
     have hYn := h277.nonneg
     have hlx := Wc.len (by decide) h276 hXs
     have hly := Wc.len (by decide) h277 hYs
     refine rk_seq <| rk_seq <| rk_reg <| lw_v (.slice Ay235 ly236 cy237) (dv_move (T rfl f255)) <| lw_v (qi (ly236 : Int)) (dv_len (ad := Ay235) (l := ly236) (c := cy237) us75 (T rfl rfl)) <| lw_v (qd (0 < (ly236 : Int))) (dv_gtr (a := (ly236 : Int)) (b := 0) (T rfl rfl) C) <| lw_nil ?_
     by_cases hb279 : 0 < ((ly236 : Int))
     · refine rk_ct (T rfl (qT hb279)) <| rk_skip <| rk_block <| rk_seq <| rk_reg <| lw_v (.slice Ax232 lx233 cx234) (dv_move (T rfl f254)) <| lw_v (.slice Ay235 ly236 cy237) (dv_move (T rfl f255)) <| lw_e (oe_callf (vs := [.slice Ax232 lx233 cx234, .slice Ay235 ly236 cy237]) co68 (ar2 (T rfl rfl) (T rfl rfl)) (divWords_ok h276 h277 (by omega) (by first | omega | (simp; done) | (simp; omega)) (by first | omega | (simp; done) | (simp; omega))) ?_)
       rintro _ w288 ⟨A280, n281, c282, A283, n284, c285, rfl, e289, h286, h287⟩
       have E290 := below_ext E269 E269.size e289
       have lh286 := Wc.len (by decide) h286 (div_sz (Wc.nonneg h276) (by omega) hXs)
       have lh287 := Wc.len (by decide) h287 (mod_sz (by omega) hYs)
       refine lw_v (.tuple #[.slice A280 n281 c282, .slice A283 n284 c285]) (dv_move (T rfl rfl)) <| lw_v (.slice A280 n281 c282) (dv_extract (vs := #[.slice A280 n281 c282, .slice A283 n284 c285]) (T rfl rfl) rfl) <| lw_v (.slice A283 n284 c285) (dv_extract (vs := #[.slice A280 n281 c282, .slice A283 n284 c285]) (T rfl rfl) rfl) <| lw_v (.slice A280 n281 c282) (dv_assign (T rfl rfl)) <| lw_v (.slice A283 n284 c285) (dv_assign (T rfl rfl)) <| lw_nil <| rk_reg <| lw_v (.slice Ay235 ly236 cy237) (dv_move (T rfl f255)) <| lw_v (.slice A283 n284 c285) (dv_move (T rfl rfl)) ?_
       obtain ⟨xs291, hl292, hc293, hw294, ho295, hk296, hv297⟩ := h287
       have H298 := (e289.blk H270)
       have : bl < w288.heap.size := lt_of_blk H298
       have H299 := (e289.blk H271)
       have : b1 < w288.heap.size := lt_of_blk H299
       have H300 := (e289.blk H272)
       have : b6 < w288.heap.size := lt_of_blk H300
       have H301 := (e289.blk H273)
       have : b16 < w288.heap.size := lt_of_blk H301
       have H302 := (e289.blk H274)
       have : b112 < w288.heap.size := lt_of_blk H302
       have H303 := (e289.blk H275)
       have : b217 < w288.heap.size := lt_of_blk H303
       have N304 : w.heap.size ≤ w288.heap.size := E290.size
       refine lw_e (oe_callf (vs := [.slice A283 n284 c285]) co69 (ar1 (T rfl rfl)) (clone_ok hw294 hl292 (by first | omega | (simp; done) | (simp; omega))) ?_)
       rintro _ w308 ⟨Ad305, c306, rfl, e309, hO307⟩
       have E310 := below_ext E290 E290.size e309
       refine lw_v (.slice Ay235 ly236 cy237) (dv_assign (T rfl rfl)) <| lw_v (.slice Ad305 (xs291.length) c306) (dv_assign (T rfl rfl)) <| lw_nil <| rk_inBlock ?_
       have h311 := ((h277.ext e289).ext e309)
       have hml := Int.emod_lt_of_pos X238 (hYp.1 (by omega))
       have hmn := Int.emod_nonneg X238 (show Y239 ≠ 0 by omega)
       have H312 := (e309.blk H298)
       have H313 := (e309.blk H299)
       have H314 := (e309.blk H300)
       have H315 := (e309.blk H301)
       have H316 := (e309.blk H302)
       have H317 := (e309.blk H303)
       exact ih248 ((X238 % Y239).toNat) _ _ (by rw [hd278]; omega) ⟨Ay235, ly236, cy237, Ad305, xs291.length, c306, Y239, (X238 % Y239), rfl, f251, f252, f253, rfl, rfl, f256, f257, f258, f259, f260, f261, f262, f263, f264, f265, f266, f267, f268, E310, H312, H313, H314, H315, H316, H317, h311, ⟨xs291, rfl, hO307.cap, hO307.wd, ho295, hk296, hv297⟩, (by rw [gI_step]; exact hgc), hYs, (by omega)⟩
     · refine rk_cf (T rfl (qF hb279)) <| rk_exit rfl ?_
       have hY0 : Y239 = 0 := by omega
       rw [hY0, gI_zero] at hgc
       have hr318 : X238 = gI3 x y z := (by have h := hgc; rw [show gI3 x y z = gI (gI x y) z from rfl]; rw [gI_absr] at h; (try simp at h); omega)
       have hw319 := Wc.eq h276 hr318
       have hq320 : gI3 x y z < 2 ^ (max sx (max sy sz)) := by rw [← hr318]; exact hXs
       refine rk_reg <| lw_v (.slice Ax232 lx233 cx234) (dv_move (T rfl f254)) <| lw_v (.agg #[.bool false, .slice Ax232 lx233 cx234]) (dv_build (pv := [(0, .bool false), (1, .slice Ax232 lx233 cx234)]) (l := [.bool false, .slice Ax232 lx233 cx234]) zc77 pl77 ⟨rfl, C, ⟨rfl, (T rfl rfl), trivial⟩⟩ rfl) <| lw_e (oe_store (v := .agg #[.bool false, .slice Ax232 lx233 cx234]) (vs := [.bool false, .slice Ax232 lx233 cx234]) (l := [.bool false, .slice Ax232 lx233 cx234]) (T rfl f252) (T rfl rfl) sz77 rfl rfl rfl H272 rfl ?_)
       intro w321 s322 H323
       have E324 := below_st E269 N9 s322
       refine lw_nil <| rk_inBlock <| rk_reg <| lw_v (qi 3) (dv_add (a := 2) (b := 1) (z := 3) (T rfl f258) C (by decide)) <| lw_v (qi 3) (dv_move (T rfl rfl)) <| lw_nil <| rk_inLoop <| rk_seq <| rk_reg <| lw_v (qd (((3 : Int) < 3 : Prop))) (dv_lss (a := 3) (b := 3) (T rfl rfl) (T rfl f257)) <| lw_nil ?_
       refine rk_seq <| rk_cf (T rfl (rfl)) <| rk_exit rfl <| rk_seq <| rk_reg <| lw_v (.agg #[.bool false, .slice Ax232 lx233 cx234]) (dv_loads (l := [.bool false, .slice Ax232 lx233 cx234]) agt77 sz77 (T rfl f252) H323 rfl) ?_
       have H325 := (s322.blk H271 (by omega))
       refine lw_e (oe_store (v := .agg #[.bool false, .slice Ax232 lx233 cx234]) (vs := [.bool false, .slice Ax232 lx233 cx234]) (l := [.bool false, .slice Ax232 lx233 cx234]) (T rfl f251) (T rfl rfl) sz77 rfl rfl rfl H325 rfl ?_)
       intro w326 s327 H328
       have E329 := below_st E324 N4 s327
       refine lw_nil <| rk_ret Tryz.func47 (v := .agg #[.bool false, .slice Ax232 lx233 cx234]) (res1 Tryz.results47 (rv_cells (l := [.bool false, .slice Ax232 lx233 cx234]) agt77 sz77 rfl f251 H328 rfl)) ⟨_, rfl, ?_⟩
       have h330 := ((hw319.st s322 H272 (by decide)).st s327 H325 (by decide))
       exact ⟨_, _, _, _, rfl, E329, Wc.num h330 (by simp) (by simp [sg]) hq320⟩
end Go.Proofs.YtmbpomcbdopgnaaGreat.W
set_option linter.unusedVariables false
set_option linter.unusedSimpArgs false
namespace Go.Proofs.YtmbpomcbdopgnaaGreat.W
open Go Go.RowKit Go.Proofs.YtmbpomcbdopgnaaGreat.Fw
attribute [local irreducible] RunK LW AW DV OE Ct
theorem agt33 : aggB Tryz.prog 33 = some true := by kernel_rfl
theorem fo25_0 : fieldOffB Tryz.prog 25 0 = some 0 := by kernel_rfl
theorem fo25_1 : fieldOffB Tryz.prog 25 1 = some 1 := by kernel_rfl
theorem fo25_2 : fieldOffB Tryz.prog 25 2 = some 2 := by kernel_rfl
theorem fo25_3 : fieldOffB Tryz.prog 25 3 = some 3 := by kernel_rfl
theorem sz33 : sizeB Tryz.prog 33 = some 4 := by kernel_rfl
theorem ze33 : zeroB Tryz.prog 33 = some #[.int .u64 0, .int .u64 0, .int .u64 0, .int .u64 0] := by kernel_rfl
set_option maxHeartbeats 1000000 in
theorem toWide_ok {w : World} {z : Int}   : Ct Tryz.prog 21 [.agg #[.int .u64 (wv3 z), .int .u64 (wv2 z), .int .u64 (wv1 z), .int .u64 (wv0 z)]] w fun v w1 => v = .agg #[.int .u64 (wv3 z), .int .u64 (wv2 z), .int .u64 (wv1 z), .int .u64 (wv0 z)] ∧ Ext w w1 := by
 refine ct_run (n := 17) Tryz.func21 rfl Tryz.ntmps21 rfl ?_
 have E0 : Below w.heap.size w w := Below.refl _ _
 refine rk_seq <| rk_reg <| lw_e (oe_box (v := .agg #[qu (wv3 z), qu (wv2 z), qu (wv1 z), qu (wv0 z)]) (cs := #[qu (wv3 z), qu (wv2 z), qu (wv1 z), qu (wv0 z)]) (T rfl rfl) rfl ?_)
 intro b1 w2 n3
 have N4 : w.heap.size ≤ b1 := n3.eq ▸ E0.size
 have E5 := below_ext E0 E0.size n3.ext
 refine lw_e (oe_alloc ze33 ?_)
 intro b6 w7 n8
 have N9 : w.heap.size ≤ b6 := n8.eq ▸ E5.size
 have : b1 < b6 := n8.eq ▸ lt_of_blk n3.blk
 have E10 := below_ext E5 E5.size n8.ext
 refine qN <| lw_e (oe_alloc ze33 ?_)
 intro b11 w12 n13
 have N14 : w.heap.size ≤ b11 := n13.eq ▸ E10.size
 have : b6 < b11 := n13.eq ▸ lt_of_blk n8.blk
 have E15 := below_ext E10 E10.size n13.ext
 refine qN <| lw_v (.pointer (some ⟨b1, 0, none⟩)) (dv_fieldAddr (a := ⟨b1, 0, none⟩) (a' := ⟨b1, 0, none⟩) fo25_0 (T rfl rfl) rfl) ?_
 have H16 := (n13.ext.blk (n8.ext.blk n3.blk))
 refine lw_v (qu (wv3 z)) (dv_load1 (b := b1) (o := 0) agt23 (T rfl rfl) H16 rfl) <| lw_v (.pointer (some ⟨b11, 0, none⟩)) (dv_fieldAddr (a := ⟨b11, 0, none⟩) (a' := ⟨b11, 0, none⟩) fo33_0 (T rfl rfl) rfl) <| lw_e (oe_store (v := qu (wv3 z)) (vs := [qu (wv3 z)]) (l := [qu (wv3 z), qu 0, qu 0, qu 0]) (T rfl rfl) (T rfl rfl) sz23 rfl rfl rfl n13.blk rfl ?_)
 intro w17 s18 H19
 have E20 := below_st E15 N14 s18
 refine qN <| lw_v (.pointer (some ⟨b1, 1, none⟩)) (dv_fieldAddr (a := ⟨b1, 0, none⟩) (a' := ⟨b1, 1, none⟩) fo25_1 (T rfl rfl) rfl) ?_
 have H21 := (s18.blk H16 (by omega))
 refine lw_v (qu (wv2 z)) (dv_load1 (b := b1) (o := 1) agt23 (T rfl rfl) H21 rfl) <| lw_v (.pointer (some ⟨b11, 1, none⟩)) (dv_fieldAddr (a := ⟨b11, 0, none⟩) (a' := ⟨b11, 1, none⟩) fo33_1 (T rfl rfl) rfl) <| lw_e (oe_store (v := qu (wv2 z)) (vs := [qu (wv2 z)]) (l := [qu (wv3 z), qu (wv2 z), qu 0, qu 0]) (T rfl rfl) (T rfl rfl) sz23 rfl rfl rfl H19 rfl ?_)
 intro w22 s23 H24
 have E25 := below_st E20 N14 s23
 refine qN <| lw_v (.pointer (some ⟨b1, 2, none⟩)) (dv_fieldAddr (a := ⟨b1, 0, none⟩) (a' := ⟨b1, 2, none⟩) fo25_2 (T rfl rfl) rfl) ?_
 have H26 := (s23.blk H21 (by omega))
 refine lw_v (qu (wv1 z)) (dv_load1 (b := b1) (o := 2) agt23 (T rfl rfl) H26 rfl) <| lw_v (.pointer (some ⟨b11, 2, none⟩)) (dv_fieldAddr (a := ⟨b11, 0, none⟩) (a' := ⟨b11, 2, none⟩) fo33_2 (T rfl rfl) rfl) <| lw_e (oe_store (v := qu (wv1 z)) (vs := [qu (wv1 z)]) (l := [qu (wv3 z), qu (wv2 z), qu (wv1 z), qu 0]) (T rfl rfl) (T rfl rfl) sz23 rfl rfl rfl H24 rfl ?_)
 intro w27 s28 H29
 have E30 := below_st E25 N14 s28
 refine qN <| lw_v (.pointer (some ⟨b1, 3, none⟩)) (dv_fieldAddr (a := ⟨b1, 0, none⟩) (a' := ⟨b1, 3, none⟩) fo25_3 (T rfl rfl) rfl) ?_
 have H31 := (s28.blk H26 (by omega))
 refine lw_v (qu (wv0 z)) (dv_load1 (b := b1) (o := 3) agt23 (T rfl rfl) H31 rfl) <| lw_v (.pointer (some ⟨b11, 3, none⟩)) (dv_fieldAddr (a := ⟨b11, 0, none⟩) (a' := ⟨b11, 3, none⟩) fo33_3 (T rfl rfl) rfl) <| lw_e (oe_store (v := qu (wv0 z)) (vs := [qu (wv0 z)]) (l := [qu (wv3 z), qu (wv2 z), qu (wv1 z), qu (wv0 z)]) (T rfl rfl) (T rfl rfl) sz23 rfl rfl rfl H29 rfl ?_)
 intro w32 s33 H34
 have E35 := below_st E30 N14 s33
 refine qN <| lw_v (.agg #[qu (wv3 z), qu (wv2 z), qu (wv1 z), qu (wv0 z)]) (dv_loads (l := [qu (wv3 z), qu (wv2 z), qu (wv1 z), qu (wv0 z)]) agt33 sz33 (T rfl rfl) H34 rfl) ?_
 have H36 := (s33.blk (s28.blk (s23.blk (s18.blk (n13.ext.blk n8.blk) (by omega)) (by omega)) (by omega)) (by omega))
 refine lw_e (oe_store (v := .agg #[qu (wv3 z), qu (wv2 z), qu (wv1 z), qu (wv0 z)]) (vs := [qu (wv3 z), qu (wv2 z), qu (wv1 z), qu (wv0 z)]) (l := [qu (wv3 z), qu (wv2 z), qu (wv1 z), qu (wv0 z)]) (T rfl rfl) (T rfl rfl) sz33 rfl rfl rfl H36 rfl ?_)
 intro w37 s38 H39
 have E40 := below_st E35 N9 s38
 refine lw_nil <| rk_ret Tryz.func21 (v := .agg #[qu (wv3 z), qu (wv2 z), qu (wv1 z), qu (wv0 z)]) (res1 Tryz.results21 (rv_cells (l := [qu (wv3 z), qu (wv2 z), qu (wv1 z), qu (wv0 z)]) agt33 sz33 rfl rfl H39 rfl)) ⟨_, rfl, ?_⟩
 exact ⟨rfl, E40⟩
set_option maxHeartbeats 1000000 in
theorem eqWide_ok {w : World} {x y : Int} (fx_ : fits x) (fy_ : fits y)  : Ct Tryz.prog 86 [.agg #[.int .u64 (wv3 x), .int .u64 (wv2 x), .int .u64 (wv1 x), .int .u64 (wv0 x)], .agg #[.int .u64 (wv3 y), .int .u64 (wv2 y), .int .u64 (wv1 y), .int .u64 (wv0 y)]] w fun v w1 => v = .bool (decide (x = y)) ∧ Ext w w1 := by
 refine ct_run (n := 25) Tryz.func86 rfl Tryz.ntmps86 rfl ?_
 have E0 : Below w.heap.size w w := Below.refl _ _
 refine rk_seq <| rk_reg <| lw_e (oe_box (v := .agg #[qu (wv3 x), qu (wv2 x), qu (wv1 x), qu (wv0 x)]) (cs := #[qu (wv3 x), qu (wv2 x), qu (wv1 x), qu (wv0 x)]) (T rfl rfl) rfl ?_)
 intro b1 w2 n3
 have N4 : w.heap.size ≤ b1 := n3.eq ▸ E0.size
 have E5 := below_ext E0 E0.size n3.ext
 refine lw_e (oe_box (v := .agg #[qu (wv3 y), qu (wv2 y), qu (wv1 y), qu (wv0 y)]) (cs := #[qu (wv3 y), qu (wv2 y), qu (wv1 y), qu (wv0 y)]) (T rfl rfl) rfl ?_)
 intro b6 w7 n8
 have N9 : w.heap.size ≤ b6 := n8.eq ▸ E5.size
 have : b1 < b6 := n8.eq ▸ lt_of_blk n3.blk
 have E10 := below_ext E5 E5.size n8.ext
 refine lw_v (.bool false) (dv_assign C) <| lw_nil <| rk_seq <| rk_seq <| rk_reg <| lw_v (.pointer (some ⟨b1, 0, none⟩)) (dv_fieldAddr (a := ⟨b1, 0, none⟩) (a' := ⟨b1, 0, none⟩) fo33_0 (T rfl rfl) rfl) ?_
 have H11 := (n8.ext.blk n3.blk)
 refine lw_v (qu (wv3 x)) (dv_load1 (b := b1) (o := 0) agt23 (T rfl rfl) H11 rfl) <| lw_v (.pointer (some ⟨b6, 0, none⟩)) (dv_fieldAddr (a := ⟨b6, 0, none⟩) (a' := ⟨b6, 0, none⟩) fo33_0 (T rfl rfl) rfl) <| lw_v (qu (wv3 y)) (dv_load1 (b := b6) (o := 0) agt23 (T rfl rfl) n8.blk rfl) <| lw_v (qd ((wv3 x) ≠ (wv3 y))) (dv_neq (a := wv3 x) (b := wv3 y) (T rfl rfl) (T rfl rfl)) <| lw_nil ?_
 by_cases hb12 : (wv3 x) ≠ (wv3 y)
 · refine rk_ct (T rfl (qT hb12)) <| rk_seq <| rk_reg <| lw_v (.bool false) (dv_assign C) <| lw_nil <| rk_ret Tryz.func86 (v := .bool false) (res1 Tryz.results86 (rv_tmp rfl rfl)) ⟨_, rfl, ?_⟩
   exact ⟨(vf (by intro he; subst he; exact absurd rfl (by assumption))), E10⟩
 · refine rk_cf (T rfl (qF hb12)) <| rk_skip <| rk_seq <| rk_seq <| rk_reg <| lw_v (.pointer (some ⟨b1, 1, none⟩)) (dv_fieldAddr (a := ⟨b1, 0, none⟩) (a' := ⟨b1, 1, none⟩) fo33_1 (T rfl rfl) rfl) <| lw_v (qu (wv2 x)) (dv_load1 (b := b1) (o := 1) agt23 (T rfl rfl) H11 rfl) <| lw_v (.pointer (some ⟨b6, 1, none⟩)) (dv_fieldAddr (a := ⟨b6, 0, none⟩) (a' := ⟨b6, 1, none⟩) fo33_1 (T rfl rfl) rfl) <| lw_v (qu (wv2 y)) (dv_load1 (b := b6) (o := 1) agt23 (T rfl rfl) n8.blk rfl) <| lw_v (qd ((wv2 x) ≠ (wv2 y))) (dv_neq (a := wv2 x) (b := wv2 y) (T rfl rfl) (T rfl rfl)) <| lw_nil ?_
   by_cases hb13 : (wv2 x) ≠ (wv2 y)
   · refine rk_ct (T rfl (qT hb13)) <| rk_seq <| rk_reg <| lw_v (.bool false) (dv_assign C) <| lw_nil <| rk_ret Tryz.func86 (v := .bool false) (res1 Tryz.results86 (rv_tmp rfl rfl)) ⟨_, rfl, ?_⟩
     exact ⟨(vf (by intro he; subst he; exact absurd rfl (by assumption))), E10⟩
   · refine rk_cf (T rfl (qF hb13)) <| rk_skip <| rk_seq <| rk_seq <| rk_reg <| lw_v (.pointer (some ⟨b1, 2, none⟩)) (dv_fieldAddr (a := ⟨b1, 0, none⟩) (a' := ⟨b1, 2, none⟩) fo33_2 (T rfl rfl) rfl) <| lw_v (qu (wv1 x)) (dv_load1 (b := b1) (o := 2) agt23 (T rfl rfl) H11 rfl) <| lw_v (.pointer (some ⟨b6, 2, none⟩)) (dv_fieldAddr (a := ⟨b6, 0, none⟩) (a' := ⟨b6, 2, none⟩) fo33_2 (T rfl rfl) rfl) <| lw_v (qu (wv1 y)) (dv_load1 (b := b6) (o := 2) agt23 (T rfl rfl) n8.blk rfl) <| lw_v (qd ((wv1 x) ≠ (wv1 y))) (dv_neq (a := wv1 x) (b := wv1 y) (T rfl rfl) (T rfl rfl)) <| lw_nil ?_
     by_cases hb14 : (wv1 x) ≠ (wv1 y)
     · refine rk_ct (T rfl (qT hb14)) <| rk_seq <| rk_reg <| lw_v (.bool false) (dv_assign C) <| lw_nil <| rk_ret Tryz.func86 (v := .bool false) (res1 Tryz.results86 (rv_tmp rfl rfl)) ⟨_, rfl, ?_⟩
       exact ⟨(vf (by intro he; subst he; exact absurd rfl (by assumption))), E10⟩
     · refine rk_cf (T rfl (qF hb14)) <| rk_skip <| rk_seq <| rk_seq <| rk_reg <| lw_v (.pointer (some ⟨b1, 3, none⟩)) (dv_fieldAddr (a := ⟨b1, 0, none⟩) (a' := ⟨b1, 3, none⟩) fo33_3 (T rfl rfl) rfl) <| lw_v (qu (wv0 x)) (dv_load1 (b := b1) (o := 3) agt23 (T rfl rfl) H11 rfl) <| lw_v (.pointer (some ⟨b6, 3, none⟩)) (dv_fieldAddr (a := ⟨b6, 0, none⟩) (a' := ⟨b6, 3, none⟩) fo33_3 (T rfl rfl) rfl) <| lw_v (qu (wv0 y)) (dv_load1 (b := b6) (o := 3) agt23 (T rfl rfl) n8.blk rfl) <| lw_v (qd ((wv0 x) ≠ (wv0 y))) (dv_neq (a := wv0 x) (b := wv0 y) (T rfl rfl) (T rfl rfl)) <| lw_nil ?_
       by_cases hb15 : (wv0 x) ≠ (wv0 y)
       · refine rk_ct (T rfl (qT hb15)) <| rk_seq <| rk_reg <| lw_v (.bool false) (dv_assign C) <| lw_nil <| rk_ret Tryz.func86 (v := .bool false) (res1 Tryz.results86 (rv_tmp rfl rfl)) ⟨_, rfl, ?_⟩
         exact ⟨(vf (by intro he; subst he; exact absurd rfl (by assumption))), E10⟩
       · refine rk_cf (T rfl (qF hb15)) <| rk_skip <| rk_seq <| rk_reg <| lw_v (.bool true) (dv_assign C) <| lw_nil <| rk_ret Tryz.func86 (v := .bool true) (res1 Tryz.results86 (rv_tmp rfl rfl)) ⟨_, rfl, ?_⟩
         exact ⟨(vt (wv_inj fx_ fy_ (by omega) (by omega) (by omega) (by omega))), E10⟩
end Go.Proofs.YtmbpomcbdopgnaaGreat.W
