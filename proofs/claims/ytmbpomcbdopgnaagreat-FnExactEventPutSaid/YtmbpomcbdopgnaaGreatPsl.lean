/- Walks and plain mathematics, packed by a program of this session: declarations that the rows reach. -/
import Derived.Test.YtmbpomcbdopgnaaGreatPsk
set_option linter.unusedVariables false
set_option linter.unusedSimpArgs false
namespace Go.Proofs.YtmbpomcbdopgnaaGreat.W
open Go Go.RowKit Go.Proofs.YtmbpomcbdopgnaaGreat.Fw
attribute [local irreducible] RunK LW AW DV OE Ct
theorem co31 : callOk Tryz.prog 31 = true := by kernel_rfl
theorem co32 : callOk Tryz.prog 32 = true := by kernel_rfl
set_option maxHeartbeats 1000000 in
theorem markInt64S_ok {w : World} {A : Option Addr} {n c base : Nat} {L : List Int} {k : Int} (hO : Ow w base 2 .i64 A c L) (hl : L.length = n) (hN : n ≤ 1048576) (hk : 0 ≤ k ∧ k ≤ 1152921504606846976) : Ct Tryz.prog 31 [.slice A n c, .int .i64 k] w fun v w1 => v = .int .i64 (k + (n : Int)) ∧ Sb A w w1 ∧ Ow w1 base 2 .i64 A c (mkL k n) := by
 refine ct_run (n := 19) Tryz.func31 rfl Tryz.ntmps31 rfl ?_
 have E0 : Below base w w := Below.refl _ _
 have hb0 := hO.2
 refine rk_seq <| rk_reg <| lw_v (qi 0) (dv_assign C) <| lw_nil <| rk_seq <| rk_seq <| rk_reg <| lw_v (qi 0) (dv_assign C) <| lw_nil <| rk_block <| rk_loop (fun dm_ fr wl => ∃ (i : Nat) (M : List Int), dm_ = n - i ∧ fr 0 = .slice A n c ∧ fr 1 = qi (k + (i : Int)) ∧ fr 4 = qi 0 ∧ fr 5 = qi (i : Int) ∧ Below base w wl ∧ Ow wl base 2 .i64 A c M ∧ (i ≤ n) ∧ (M.length = n) ∧ (M.take i = (mkL k n).take i) ∧ (Sb A w wl)) (n - 0) ⟨0, L, rfl, rfl, (vi (by omega)), rfl, (vi (by omega)), E0, hO, (Nat.zero_le _), hl, (by simp), (Sb.refl _ _)⟩ ?_
 intro d5 fr4 w1 hI2 ih3
 obtain ⟨i, M, hd12, f6, f7, f8, f9, E10, h11, hi, hM, hmk, hSb⟩ := hI2
 refine rk_seq <| rk_seq <| rk_reg <| lw_v (qi (i : Int)) (dv_move (T rfl f9)) <| lw_v (.slice A n c) (dv_move (T rfl f6)) <| lw_v (qi (n : Int)) (dv_len (ad := A) (l := n) (c := c) us41 (T rfl rfl)) <| lw_v (qd ((i : Int) < (n : Int))) (dv_lss (a := (i : Int)) (b := (n : Int)) (T rfl rfl) (T rfl rfl)) <| lw_nil ?_
 by_cases hb13 : ((i : Int)) < ((n : Int))
 · refine rk_ct (T rfl (qT hb13)) <| rk_skip <| rk_seq <| rk_block <| rk_seq <| rk_reg <| lw_v (.slice A n c) (dv_move (T rfl f6)) <| lw_v (qi (i : Int)) (dv_move (T rfl f9)) <| lw_v (qi (k + (i : Int))) (dv_move (T rfl f7)) ?_
   obtain ⟨g14, o15, rfl⟩ := Wd.at h11.wd (by first | omega | (simp; done) | (simp; omega))
   refine lw_v (.pointer (some ⟨g14, o15 + i, none⟩)) (dv_indexW (g := g14) (o := o15) (l := n) (c := c) (i := i) (j := (i : Int)) us41 sz2 (T rfl rfl) (T rfl rfl) (by omega) (by first | omega | (simp; done) | (simp; omega))) <| lw_e (oe_storeOwS (base := base) (L := M) (g := g14) (o := o15) (i := i) (z := k + (i : Int)) sz2 (T rfl rfl) (T rfl rfl) h11 (by first | omega | (simp; done) | (simp; omega)) ?_)
   intro w16 hO17 x18 hs19
   have E20 := below_bl E10 (Nat.le_refl _) x18
   refine lw_nil <| rk_reg <| lw_v (qi (k + (i : Int))) (dv_move (T rfl f7)) <| lw_v (qi ((k + (i : Int)) + 1)) (dv_add (a := k + (i : Int)) (b := 1) (z := (k + (i : Int)) + 1) (T rfl rfl) C (wr_i64 (by omega) (by omega))) <| lw_v (qi ((k + (i : Int)) + 1)) (dv_assign (T rfl rfl)) <| lw_nil <| rk_inBlock <| rk_reg <| lw_v (qi (i : Int)) (dv_move (T rfl f9)) <| lw_v (qi ((i : Int) + 1)) (dv_add (a := (i : Int)) (b := 1) (z := (i : Int) + 1) (T rfl rfl) C (wr_i64 (by omega) (by omega))) <| lw_v (qi ((i : Int) + 1)) (dv_assign (T rfl rfl)) ?_
   refine lw_nil ?_
   exact ih3 (n - (i + 1)) _ _ (by rw [hd12]; omega) ⟨(i + 1), (M.set i (k + (i : Int))), rfl, f6, (vi (by omega)), f8, (vi (by omega)), E20, hO17, (by omega), (by simp [hM]), (mkL_step hmk hM (by omega)), (hSb.st hs19)⟩
 · refine rk_cf (T rfl (qF hb13)) <| rk_exit rfl <| rk_seq <| rk_reg <| lw_v (qi (k + (i : Int))) (dv_move (T rfl f7)) <| lw_v (qi (k + (i : Int))) (dv_assign (T rfl rfl)) <| lw_nil <| rk_ret Tryz.func31 (v := qi (k + (i : Int))) (res1 Tryz.results31 (rv_tmp rfl rfl)) ⟨_, rfl, ?_⟩
   have hz : M = mkL k n := take_all hmk (by omega) (by rw [mkL_len]; omega)
   exact ⟨vi (by omega), hSb, by rw [← hz]; exact h11⟩
theorem markInner_ok {w : World} {lo hi : Nat} {x k : Int} {A Bi : Option Addr} {l c i n ci : Nat} {W : Nat → Nat → Int} {E : Nat → List Int} {SL : SlF} (hN : NO w lo hi x 56 2 A l c W E SL) (hi' : i < l) (hB : Bi = (SL i).1) (hc : ci = (SL i).2) (hn : n = (E i).length) (hb : n ≤ 1048576) (hk : 0 ≤ k ∧ k ≤ 1152921504606846976) :
 Ct Tryz.prog 31 [.slice Bi n ci, .int .i64 k] w fun v w1 => v = .int .i64 (k + (n : Int)) ∧ Mid lo hi x w w1 ∧ NO w1 lo hi x 56 2 A l c W (updA E i (mkL k n)) SL := by
 subst hB; subst hc; subst hn
 have h_ := markInt64S_ok (hN.ow hi') rfl hb hk
 unfold Ct at h_ ⊢
 refine Calls.mono h_ fun e w' ⟨v, he, hv, hS, hO⟩ => ⟨v, he, hv, ?_⟩
 exact hN.marked (by decide) hi' hS hO (mkL_len _ _)
set_option maxRecDepth 100000 in
set_option maxHeartbeats 8000000 in
theorem markEventS_ok {w : World} {lo hi : Nat} {x k0 : Int} {A : Option Addr} {l c cc : Nat} {W : Nat → Nat → Int} {E : Nat → List Int} {SL : SlF} (hN : NO w lo hi x 56 2 A l c W E SL) (hEl : ∀ i, i < l → (E i).length ≤ 1048576) (hl : l ≤ 1048576) (hk : 0 ≤ k0 ∧ k0 ≤ 1073741824) : Ct Tryz.prog 10 [.slice A l cc, .int .i64 k0] w fun v w1 => ∃ W' E', v = .int .i64 (kAt k0 E l) ∧ Mid lo hi x w w1 ∧ NO w1 lo hi x 56 2 A l c W' E' SL ∧ (∀ q, (E' q).length = (E q).length) ∧ mkd k0 E l W' E' := by
 refine ct_run (n := 140) Tryz.func10 rfl Tryz.ntmps10 rfl ?_
 have E0 : Below lo w w := Below.refl _ _
 have hb0 := Nat.le_trans hN.lh.1 hN.lh.2; have hlc_ := hN.lc
 refine rk_seq <| rk_reg <| lw_v (qi 0) (dv_assign C) <| lw_nil <| rk_seq <| rk_seq <| rk_reg <| lw_v (qi 0) (dv_assign C) <| lw_nil <| rk_block <| rk_loop (fun dm_ fr wl => ∃ (i : Nat) (kk : Int) (W' : Nat → Nat → Int) (E' : Nat → List Int), dm_ = l - i ∧ fr 0 = .slice A l cc ∧ fr 1 = qi kk ∧ fr 4 = qi 0 ∧ fr 5 = qi (i : Int) ∧ Below lo w wl ∧ NO wl lo hi x 56 2 A l c W' E' SL ∧ (i ≤ l) ∧ (kk = kAt k0 E i) ∧ (∀ q, (E' q).length = (E q).length) ∧ (mkd k0 E i W' E') ∧ (Mid lo hi x w wl)) (l - 0) ⟨0, k0, W, E, rfl, rfl, (rfl), rfl, (vi (by omega)), E0, hN, (Nat.zero_le _), rfl, (fun _ => rfl), (mkd_0 _ _ _ _), (Mid.refl _ _ _ _)⟩ ?_
 intro d5 fr4 w1 hI2 ih3
 obtain ⟨i, kk, W', E', hd12, f6, f7, f8, f9, E10, h11, hi_, hkk, hlen, hmd, hMid⟩ := hI2
 obtain ⟨As13, hAs15⟩ : ∃ q_ : Option Addr, q_ = (SL i).1 := ⟨_, rfl⟩
 obtain ⟨cs14, hcs16⟩ : ∃ q_ : Nat, q_ = (SL i).2 := ⟨_, rfl⟩
 have hk1 := kAt_ge k0 E i; have hk2 := kAt_le k0 hEl i hi_; have hen : i < l → (E i).length ≤ 1048576 := fun h_ => hEl i h_
 have hln := hlen i
 refine rk_seq <| rk_seq <| rk_reg <| lw_v (qi (i : Int)) (dv_move (T rfl f9)) <| lw_v (.slice A l cc) (dv_move (T rfl f6)) <| lw_v (qi (l : Int)) (dv_len (ad := A) (l := l) (c := cc) us29 (T rfl rfl)) <| lw_v (qd ((i : Int) < (l : Int))) (dv_lss (a := (i : Int)) (b := (l : Int)) (T rfl rfl) (T rfl rfl)) <| lw_nil ?_
 by_cases hb17 : ((i : Int)) < ((l : Int))
 · refine rk_ct (T rfl (qT hb17)) <| rk_skip <| rk_seq <| rk_block <| rk_seq <| rk_reg <| lw_v (.slice A l cc) (dv_move (T rfl f6)) <| lw_v (qi (i : Int)) (dv_move (T rfl f9)) <| lw_v (qi kk) (dv_move (T rfl f7)) <| lw_v (qu kk) (dv_conv (a := kk) (z := kk) ui3 ui23 (T rfl rfl) (wn_u64 (by omega) (by omega))) ?_
   obtain ⟨g18, o19, rfl⟩ := NO.at h11 (by first | omega | (simp; done) | (simp; omega))
   refine lw_v (.pointer (some ⟨g18, o19 + i * 13, none⟩)) (dv_indexM (g := g18) (o := o19) (l := l) (c := cc) (i := i) (j := (i : Int)) (m := 13) us29 sz56 (T rfl rfl) (T rfl rfl) (by omega) (by first | omega | (simp; done) | (simp; omega))) <| lw_v (.pointer (some ⟨g18, o19 + (i * 13), none⟩)) (dv_fieldW (g := g18) (o := o19) (i := i * 13) fo56_0 (T rfl rfl)) <| lw_v (.pointer (some ⟨g18, o19 + (i * 13), none⟩)) (dv_fieldW (g := g18) (o := o19) (i := i * 13) fo35_0 (T rfl rfl)) <| lw_v (.pointer (some ⟨g18, o19 + (i * 13), none⟩)) (dv_fieldW (g := g18) (o := o19) (i := i * 13) fo33_0 (T rfl rfl)) <| lw_e (oe_storeWd (lo := lo) (hi := hi) (x := x) (l := l) (g := g18) (o := o19) (i := i) (j := 0) (z := kk) sz23 (T rfl rfl) (T rfl rfl) h11 (by decide) (by first | omega | (simp; done) | (simp; omega)) (by decide) ?_)
   intro w20 hN21 x22
   have E23 := below_mid E10 (Nat.le_refl _) (Nat.le_trans hb0 E10.size) x22
   refine qN <| lw_v (qi kk) (dv_move (T rfl f7)) <| lw_v (qi (kk + 1)) (dv_add (a := kk) (b := 1) (z := kk + 1) (T rfl rfl) C (wr_i64 (by omega) (by omega))) <| lw_v (qi (kk + 1)) (dv_assign (T rfl rfl)) <| qN <| lw_v (.slice (some ⟨g18, o19, none⟩) l cc) (dv_move (T rfl f6)) <| lw_v (qi (i : Int)) (dv_move (T rfl f9)) ?_
   refine lw_v (qi (kk + 1)) (dv_move (T rfl rfl)) <| lw_v (qu (kk + 1)) (dv_conv (a := kk + 1) (z := kk + 1) ui3 ui23 (T rfl rfl) (wn_u64 (by omega) (by omega))) <| lw_v (.pointer (some ⟨g18, o19 + i * 13, none⟩)) (dv_indexM (g := g18) (o := o19) (l := l) (c := cc) (i := i) (j := (i : Int)) (m := 13) us29 sz56 (T rfl rfl) (T rfl rfl) (by omega) (by first | omega | (simp; done) | (simp; omega))) <| lw_v (.pointer (some ⟨g18, o19 + (i * 13), none⟩)) (dv_fieldW (g := g18) (o := o19) (i := i * 13) fo56_0 (T rfl rfl)) <| lw_v (.pointer (some ⟨g18, o19 + (i * 13), none⟩)) (dv_fieldW (g := g18) (o := o19) (i := i * 13) fo35_0 (T rfl rfl)) <| lw_v (.pointer (some ⟨g18, o19 + (i * 13 + 1), none⟩)) (dv_fieldW (g := g18) (o := o19) (i := i * 13) fo33_1 (T rfl rfl)) <| lw_e (oe_storeWd (lo := lo) (hi := hi) (x := x) (l := l) (g := g18) (o := o19) (i := i) (j := 1) (z := kk + 1) sz23 (T rfl rfl) (T rfl rfl) hN21 (by decide) (by first | omega | (simp; done) | (simp; omega)) (by decide) ?_)
   intro w24 hN25 x26
   have E27 := below_mid E23 (Nat.le_refl _) (Nat.le_trans hb0 E23.size) x26
   refine qN <| lw_v (qi (kk + 1)) (dv_move (T rfl rfl)) <| lw_v (qi ((kk + 1) + 1)) (dv_add (a := kk + 1) (b := 1) (z := (kk + 1) + 1) (T rfl rfl) C (wr_i64 (by omega) (by omega))) <| lw_v (qi ((kk + 1) + 1)) (dv_assign (T rfl rfl)) <| qN <| lw_v (.slice (some ⟨g18, o19, none⟩) l cc) (dv_move (T rfl f6)) <| lw_v (qi (i : Int)) (dv_move (T rfl f9)) ?_
   refine lw_v (qi ((kk + 1) + 1)) (dv_move (T rfl rfl)) <| lw_v (qu ((kk + 1) + 1)) (dv_conv (a := (kk + 1) + 1) (z := (kk + 1) + 1) ui3 ui23 (T rfl rfl) (wn_u64 (by omega) (by omega))) <| lw_v (.pointer (some ⟨g18, o19 + i * 13, none⟩)) (dv_indexM (g := g18) (o := o19) (l := l) (c := cc) (i := i) (j := (i : Int)) (m := 13) us29 sz56 (T rfl rfl) (T rfl rfl) (by omega) (by first | omega | (simp; done) | (simp; omega))) <| lw_v (.pointer (some ⟨g18, o19 + (i * 13), none⟩)) (dv_fieldW (g := g18) (o := o19) (i := i * 13) fo56_0 (T rfl rfl)) <| lw_v (.pointer (some ⟨g18, o19 + (i * 13), none⟩)) (dv_fieldW (g := g18) (o := o19) (i := i * 13) fo35_0 (T rfl rfl)) <| lw_v (.pointer (some ⟨g18, o19 + (i * 13 + 2), none⟩)) (dv_fieldW (g := g18) (o := o19) (i := i * 13) fo33_2 (T rfl rfl)) <| lw_e (oe_storeWd (lo := lo) (hi := hi) (x := x) (l := l) (g := g18) (o := o19) (i := i) (j := 2) (z := (kk + 1) + 1) sz23 (T rfl rfl) (T rfl rfl) hN25 (by decide) (by first | omega | (simp; done) | (simp; omega)) (by decide) ?_)
   intro w28 hN29 x30
   have E31 := below_mid E27 (Nat.le_refl _) (Nat.le_trans hb0 E27.size) x30
   refine qN <| lw_v (qi ((kk + 1) + 1)) (dv_move (T rfl rfl)) <| lw_v (qi (((kk + 1) + 1) + 1)) (dv_add (a := (kk + 1) + 1) (b := 1) (z := ((kk + 1) + 1) + 1) (T rfl rfl) C (wr_i64 (by omega) (by omega))) <| lw_v (qi (((kk + 1) + 1) + 1)) (dv_assign (T rfl rfl)) <| qN <| lw_v (.slice (some ⟨g18, o19, none⟩) l cc) (dv_move (T rfl f6)) <| lw_v (qi (i : Int)) (dv_move (T rfl f9)) ?_
   refine lw_v (qi (((kk + 1) + 1) + 1)) (dv_move (T rfl rfl)) <| lw_v (qu (((kk + 1) + 1) + 1)) (dv_conv (a := ((kk + 1) + 1) + 1) (z := ((kk + 1) + 1) + 1) ui3 ui23 (T rfl rfl) (wn_u64 (by omega) (by omega))) <| lw_v (.pointer (some ⟨g18, o19 + i * 13, none⟩)) (dv_indexM (g := g18) (o := o19) (l := l) (c := cc) (i := i) (j := (i : Int)) (m := 13) us29 sz56 (T rfl rfl) (T rfl rfl) (by omega) (by first | omega | (simp; done) | (simp; omega))) <| lw_v (.pointer (some ⟨g18, o19 + (i * 13), none⟩)) (dv_fieldW (g := g18) (o := o19) (i := i * 13) fo56_0 (T rfl rfl)) <| lw_v (.pointer (some ⟨g18, o19 + (i * 13), none⟩)) (dv_fieldW (g := g18) (o := o19) (i := i * 13) fo35_0 (T rfl rfl)) <| lw_v (.pointer (some ⟨g18, o19 + (i * 13 + 3), none⟩)) (dv_fieldW (g := g18) (o := o19) (i := i * 13) fo33_3 (T rfl rfl)) <| lw_e (oe_storeWd (lo := lo) (hi := hi) (x := x) (l := l) (g := g18) (o := o19) (i := i) (j := 3) (z := ((kk + 1) + 1) + 1) sz23 (T rfl rfl) (T rfl rfl) hN29 (by decide) (by first | omega | (simp; done) | (simp; omega)) (by decide) ?_)
   intro w32 hN33 x34
   have E35 := below_mid E31 (Nat.le_refl _) (Nat.le_trans hb0 E31.size) x34
   refine qN <| lw_v (qi (((kk + 1) + 1) + 1)) (dv_move (T rfl rfl)) <| lw_v (qi ((((kk + 1) + 1) + 1) + 1)) (dv_add (a := ((kk + 1) + 1) + 1) (b := 1) (z := (((kk + 1) + 1) + 1) + 1) (T rfl rfl) C (wr_i64 (by omega) (by omega))) <| lw_v (qi ((((kk + 1) + 1) + 1) + 1)) (dv_assign (T rfl rfl)) <| qN <| lw_v (.slice (some ⟨g18, o19, none⟩) l cc) (dv_move (T rfl f6)) <| lw_v (qi (i : Int)) (dv_move (T rfl f9)) ?_
   refine lw_v (qi ((((kk + 1) + 1) + 1) + 1)) (dv_move (T rfl rfl)) <| lw_v (qu ((((kk + 1) + 1) + 1) + 1)) (dv_conv (a := (((kk + 1) + 1) + 1) + 1) (z := (((kk + 1) + 1) + 1) + 1) ui3 ui23 (T rfl rfl) (wn_u64 (by omega) (by omega))) <| lw_v (.pointer (some ⟨g18, o19 + i * 13, none⟩)) (dv_indexM (g := g18) (o := o19) (l := l) (c := cc) (i := i) (j := (i : Int)) (m := 13) us29 sz56 (T rfl rfl) (T rfl rfl) (by omega) (by first | omega | (simp; done) | (simp; omega))) <| lw_v (.pointer (some ⟨g18, o19 + (i * 13), none⟩)) (dv_fieldW (g := g18) (o := o19) (i := i * 13) fo56_0 (T rfl rfl)) <| lw_v (.pointer (some ⟨g18, o19 + (i * 13 + 4), none⟩)) (dv_fieldW (g := g18) (o := o19) (i := i * 13) fo35_1 (T rfl rfl)) <| lw_v (.pointer (some ⟨g18, o19 + (i * 13 + 4), none⟩)) (dv_fieldW (g := g18) (o := o19) (i := i * 13 + 4) fo33_0 (T rfl rfl)) <| lw_e (oe_storeWd (lo := lo) (hi := hi) (x := x) (l := l) (g := g18) (o := o19) (i := i) (j := 4) (z := (((kk + 1) + 1) + 1) + 1) sz23 (T rfl rfl) (T rfl rfl) hN33 (by decide) (by first | omega | (simp; done) | (simp; omega)) (by decide) ?_)
   intro w36 hN37 x38
   have E39 := below_mid E35 (Nat.le_refl _) (Nat.le_trans hb0 E35.size) x38
   refine qN <| lw_v (qi ((((kk + 1) + 1) + 1) + 1)) (dv_move (T rfl rfl)) <| lw_v (qi (((((kk + 1) + 1) + 1) + 1) + 1)) (dv_add (a := (((kk + 1) + 1) + 1) + 1) (b := 1) (z := ((((kk + 1) + 1) + 1) + 1) + 1) (T rfl rfl) C (wr_i64 (by omega) (by omega))) <| lw_v (qi (((((kk + 1) + 1) + 1) + 1) + 1)) (dv_assign (T rfl rfl)) <| qN <| lw_v (.slice (some ⟨g18, o19, none⟩) l cc) (dv_move (T rfl f6)) <| lw_v (qi (i : Int)) (dv_move (T rfl f9)) ?_
   refine lw_v (qi (((((kk + 1) + 1) + 1) + 1) + 1)) (dv_move (T rfl rfl)) <| lw_v (qu (((((kk + 1) + 1) + 1) + 1) + 1)) (dv_conv (a := ((((kk + 1) + 1) + 1) + 1) + 1) (z := ((((kk + 1) + 1) + 1) + 1) + 1) ui3 ui23 (T rfl rfl) (wn_u64 (by omega) (by omega))) <| lw_v (.pointer (some ⟨g18, o19 + i * 13, none⟩)) (dv_indexM (g := g18) (o := o19) (l := l) (c := cc) (i := i) (j := (i : Int)) (m := 13) us29 sz56 (T rfl rfl) (T rfl rfl) (by omega) (by first | omega | (simp; done) | (simp; omega))) <| lw_v (.pointer (some ⟨g18, o19 + (i * 13), none⟩)) (dv_fieldW (g := g18) (o := o19) (i := i * 13) fo56_0 (T rfl rfl)) <| lw_v (.pointer (some ⟨g18, o19 + (i * 13 + 4), none⟩)) (dv_fieldW (g := g18) (o := o19) (i := i * 13) fo35_1 (T rfl rfl)) <| lw_v (.pointer (some ⟨g18, o19 + (i * 13 + 5), none⟩)) (dv_fieldW (g := g18) (o := o19) (i := i * 13 + 4) fo33_1 (T rfl rfl)) <| lw_e (oe_storeWd (lo := lo) (hi := hi) (x := x) (l := l) (g := g18) (o := o19) (i := i) (j := 5) (z := ((((kk + 1) + 1) + 1) + 1) + 1) sz23 (T rfl rfl) (T rfl rfl) hN37 (by decide) (by first | omega | (simp; done) | (simp; omega)) (by decide) ?_)
   intro w40 hN41 x42
   have E43 := below_mid E39 (Nat.le_refl _) (Nat.le_trans hb0 E39.size) x42
   refine qN <| lw_v (qi (((((kk + 1) + 1) + 1) + 1) + 1)) (dv_move (T rfl rfl)) <| lw_v (qi ((((((kk + 1) + 1) + 1) + 1) + 1) + 1)) (dv_add (a := ((((kk + 1) + 1) + 1) + 1) + 1) (b := 1) (z := (((((kk + 1) + 1) + 1) + 1) + 1) + 1) (T rfl rfl) C (wr_i64 (by omega) (by omega))) <| lw_v (qi ((((((kk + 1) + 1) + 1) + 1) + 1) + 1)) (dv_assign (T rfl rfl)) <| qN <| lw_v (.slice (some ⟨g18, o19, none⟩) l cc) (dv_move (T rfl f6)) <| lw_v (qi (i : Int)) (dv_move (T rfl f9)) ?_
   refine lw_v (qi ((((((kk + 1) + 1) + 1) + 1) + 1) + 1)) (dv_move (T rfl rfl)) <| lw_v (qu ((((((kk + 1) + 1) + 1) + 1) + 1) + 1)) (dv_conv (a := (((((kk + 1) + 1) + 1) + 1) + 1) + 1) (z := (((((kk + 1) + 1) + 1) + 1) + 1) + 1) ui3 ui23 (T rfl rfl) (wn_u64 (by omega) (by omega))) <| lw_v (.pointer (some ⟨g18, o19 + i * 13, none⟩)) (dv_indexM (g := g18) (o := o19) (l := l) (c := cc) (i := i) (j := (i : Int)) (m := 13) us29 sz56 (T rfl rfl) (T rfl rfl) (by omega) (by first | omega | (simp; done) | (simp; omega))) <| lw_v (.pointer (some ⟨g18, o19 + (i * 13), none⟩)) (dv_fieldW (g := g18) (o := o19) (i := i * 13) fo56_0 (T rfl rfl)) <| lw_v (.pointer (some ⟨g18, o19 + (i * 13 + 4), none⟩)) (dv_fieldW (g := g18) (o := o19) (i := i * 13) fo35_1 (T rfl rfl)) <| lw_v (.pointer (some ⟨g18, o19 + (i * 13 + 6), none⟩)) (dv_fieldW (g := g18) (o := o19) (i := i * 13 + 4) fo33_2 (T rfl rfl)) <| lw_e (oe_storeWd (lo := lo) (hi := hi) (x := x) (l := l) (g := g18) (o := o19) (i := i) (j := 6) (z := (((((kk + 1) + 1) + 1) + 1) + 1) + 1) sz23 (T rfl rfl) (T rfl rfl) hN41 (by decide) (by first | omega | (simp; done) | (simp; omega)) (by decide) ?_)
   intro w44 hN45 x46
   have E47 := below_mid E43 (Nat.le_refl _) (Nat.le_trans hb0 E43.size) x46
   refine qN <| lw_v (qi ((((((kk + 1) + 1) + 1) + 1) + 1) + 1)) (dv_move (T rfl rfl)) <| lw_v (qi (((((((kk + 1) + 1) + 1) + 1) + 1) + 1) + 1)) (dv_add (a := (((((kk + 1) + 1) + 1) + 1) + 1) + 1) (b := 1) (z := ((((((kk + 1) + 1) + 1) + 1) + 1) + 1) + 1) (T rfl rfl) C (wr_i64 (by omega) (by omega))) <| lw_v (qi (((((((kk + 1) + 1) + 1) + 1) + 1) + 1) + 1)) (dv_assign (T rfl rfl)) <| qN <| lw_v (.slice (some ⟨g18, o19, none⟩) l cc) (dv_move (T rfl f6)) <| lw_v (qi (i : Int)) (dv_move (T rfl f9)) ?_
   refine lw_v (qi (((((((kk + 1) + 1) + 1) + 1) + 1) + 1) + 1)) (dv_move (T rfl rfl)) <| lw_v (qu (((((((kk + 1) + 1) + 1) + 1) + 1) + 1) + 1)) (dv_conv (a := ((((((kk + 1) + 1) + 1) + 1) + 1) + 1) + 1) (z := ((((((kk + 1) + 1) + 1) + 1) + 1) + 1) + 1) ui3 ui23 (T rfl rfl) (wn_u64 (by omega) (by omega))) <| lw_v (.pointer (some ⟨g18, o19 + i * 13, none⟩)) (dv_indexM (g := g18) (o := o19) (l := l) (c := cc) (i := i) (j := (i : Int)) (m := 13) us29 sz56 (T rfl rfl) (T rfl rfl) (by omega) (by first | omega | (simp; done) | (simp; omega))) <| lw_v (.pointer (some ⟨g18, o19 + (i * 13), none⟩)) (dv_fieldW (g := g18) (o := o19) (i := i * 13) fo56_0 (T rfl rfl)) <| lw_v (.pointer (some ⟨g18, o19 + (i * 13 + 4), none⟩)) (dv_fieldW (g := g18) (o := o19) (i := i * 13) fo35_1 (T rfl rfl)) <| lw_v (.pointer (some ⟨g18, o19 + (i * 13 + 7), none⟩)) (dv_fieldW (g := g18) (o := o19) (i := i * 13 + 4) fo33_3 (T rfl rfl)) <| lw_e (oe_storeWd (lo := lo) (hi := hi) (x := x) (l := l) (g := g18) (o := o19) (i := i) (j := 7) (z := ((((((kk + 1) + 1) + 1) + 1) + 1) + 1) + 1) sz23 (T rfl rfl) (T rfl rfl) hN45 (by decide) (by first | omega | (simp; done) | (simp; omega)) (by decide) ?_)
   intro w48 hN49 x50
   have E51 := below_mid E47 (Nat.le_refl _) (Nat.le_trans hb0 E47.size) x50
   refine qN <| lw_v (qi (((((((kk + 1) + 1) + 1) + 1) + 1) + 1) + 1)) (dv_move (T rfl rfl)) <| lw_v (qi ((((((((kk + 1) + 1) + 1) + 1) + 1) + 1) + 1) + 1)) (dv_add (a := ((((((kk + 1) + 1) + 1) + 1) + 1) + 1) + 1) (b := 1) (z := (((((((kk + 1) + 1) + 1) + 1) + 1) + 1) + 1) + 1) (T rfl rfl) C (wr_i64 (by omega) (by omega))) <| lw_v (qi ((((((((kk + 1) + 1) + 1) + 1) + 1) + 1) + 1) + 1)) (dv_assign (T rfl rfl)) <| qN <| lw_v (.slice (some ⟨g18, o19, none⟩) l cc) (dv_move (T rfl f6)) <| lw_v (qi (i : Int)) (dv_move (T rfl f9)) ?_
   refine lw_v (qi ((((((((kk + 1) + 1) + 1) + 1) + 1) + 1) + 1) + 1)) (dv_move (T rfl rfl)) <| lw_v (qu ((((((((kk + 1) + 1) + 1) + 1) + 1) + 1) + 1) + 1)) (dv_conv (a := (((((((kk + 1) + 1) + 1) + 1) + 1) + 1) + 1) + 1) (z := (((((((kk + 1) + 1) + 1) + 1) + 1) + 1) + 1) + 1) ui3 ui23 (T rfl rfl) (wn_u64 (by omega) (by omega))) <| lw_v (.pointer (some ⟨g18, o19 + i * 13, none⟩)) (dv_indexM (g := g18) (o := o19) (l := l) (c := cc) (i := i) (j := (i : Int)) (m := 13) us29 sz56 (T rfl rfl) (T rfl rfl) (by omega) (by first | omega | (simp; done) | (simp; omega))) <| lw_v (.pointer (some ⟨g18, o19 + (i * 13), none⟩)) (dv_fieldW (g := g18) (o := o19) (i := i * 13) fo56_0 (T rfl rfl)) <| lw_v (.pointer (some ⟨g18, o19 + (i * 13 + 8), none⟩)) (dv_fieldW (g := g18) (o := o19) (i := i * 13) fo35_2 (T rfl rfl)) <| lw_v (.pointer (some ⟨g18, o19 + (i * 13 + 8), none⟩)) (dv_fieldW (g := g18) (o := o19) (i := i * 13 + 8) fo33_0 (T rfl rfl)) <| lw_e (oe_storeWd (lo := lo) (hi := hi) (x := x) (l := l) (g := g18) (o := o19) (i := i) (j := 8) (z := (((((((kk + 1) + 1) + 1) + 1) + 1) + 1) + 1) + 1) sz23 (T rfl rfl) (T rfl rfl) hN49 (by decide) (by first | omega | (simp; done) | (simp; omega)) (by decide) ?_)
   intro w52 hN53 x54
   have E55 := below_mid E51 (Nat.le_refl _) (Nat.le_trans hb0 E51.size) x54
   refine qN <| lw_v (qi ((((((((kk + 1) + 1) + 1) + 1) + 1) + 1) + 1) + 1)) (dv_move (T rfl rfl)) <| lw_v (qi (((((((((kk + 1) + 1) + 1) + 1) + 1) + 1) + 1) + 1) + 1)) (dv_add (a := (((((((kk + 1) + 1) + 1) + 1) + 1) + 1) + 1) + 1) (b := 1) (z := ((((((((kk + 1) + 1) + 1) + 1) + 1) + 1) + 1) + 1) + 1) (T rfl rfl) C (wr_i64 (by omega) (by omega))) <| lw_v (qi (((((((((kk + 1) + 1) + 1) + 1) + 1) + 1) + 1) + 1) + 1)) (dv_assign (T rfl rfl)) <| qN <| lw_v (.slice (some ⟨g18, o19, none⟩) l cc) (dv_move (T rfl f6)) <| lw_v (qi (i : Int)) (dv_move (T rfl f9)) ?_
   refine lw_v (qi (((((((((kk + 1) + 1) + 1) + 1) + 1) + 1) + 1) + 1) + 1)) (dv_move (T rfl rfl)) <| lw_v (qu (((((((((kk + 1) + 1) + 1) + 1) + 1) + 1) + 1) + 1) + 1)) (dv_conv (a := ((((((((kk + 1) + 1) + 1) + 1) + 1) + 1) + 1) + 1) + 1) (z := ((((((((kk + 1) + 1) + 1) + 1) + 1) + 1) + 1) + 1) + 1) ui3 ui23 (T rfl rfl) (wn_u64 (by omega) (by omega))) <| lw_v (.pointer (some ⟨g18, o19 + i * 13, none⟩)) (dv_indexM (g := g18) (o := o19) (l := l) (c := cc) (i := i) (j := (i : Int)) (m := 13) us29 sz56 (T rfl rfl) (T rfl rfl) (by omega) (by first | omega | (simp; done) | (simp; omega))) <| lw_v (.pointer (some ⟨g18, o19 + (i * 13), none⟩)) (dv_fieldW (g := g18) (o := o19) (i := i * 13) fo56_0 (T rfl rfl)) <| lw_v (.pointer (some ⟨g18, o19 + (i * 13 + 8), none⟩)) (dv_fieldW (g := g18) (o := o19) (i := i * 13) fo35_2 (T rfl rfl)) <| lw_v (.pointer (some ⟨g18, o19 + (i * 13 + 9), none⟩)) (dv_fieldW (g := g18) (o := o19) (i := i * 13 + 8) fo33_1 (T rfl rfl)) <| lw_e (oe_storeWd (lo := lo) (hi := hi) (x := x) (l := l) (g := g18) (o := o19) (i := i) (j := 9) (z := ((((((((kk + 1) + 1) + 1) + 1) + 1) + 1) + 1) + 1) + 1) sz23 (T rfl rfl) (T rfl rfl) hN53 (by decide) (by first | omega | (simp; done) | (simp; omega)) (by decide) ?_)
   intro w56 hN57 x58
   have E59 := below_mid E55 (Nat.le_refl _) (Nat.le_trans hb0 E55.size) x58
   refine qN <| lw_v (qi (((((((((kk + 1) + 1) + 1) + 1) + 1) + 1) + 1) + 1) + 1)) (dv_move (T rfl rfl)) <| lw_v (qi ((((((((((kk + 1) + 1) + 1) + 1) + 1) + 1) + 1) + 1) + 1) + 1)) (dv_add (a := ((((((((kk + 1) + 1) + 1) + 1) + 1) + 1) + 1) + 1) + 1) (b := 1) (z := (((((((((kk + 1) + 1) + 1) + 1) + 1) + 1) + 1) + 1) + 1) + 1) (T rfl rfl) C (wr_i64 (by omega) (by omega))) <| lw_v (qi ((((((((((kk + 1) + 1) + 1) + 1) + 1) + 1) + 1) + 1) + 1) + 1)) (dv_assign (T rfl rfl)) <| qN <| lw_v (.slice (some ⟨g18, o19, none⟩) l cc) (dv_move (T rfl f6)) <| lw_v (qi (i : Int)) (dv_move (T rfl f9)) ?_
   refine lw_v (qi ((((((((((kk + 1) + 1) + 1) + 1) + 1) + 1) + 1) + 1) + 1) + 1)) (dv_move (T rfl rfl)) <| lw_v (qu ((((((((((kk + 1) + 1) + 1) + 1) + 1) + 1) + 1) + 1) + 1) + 1)) (dv_conv (a := (((((((((kk + 1) + 1) + 1) + 1) + 1) + 1) + 1) + 1) + 1) + 1) (z := (((((((((kk + 1) + 1) + 1) + 1) + 1) + 1) + 1) + 1) + 1) + 1) ui3 ui23 (T rfl rfl) (wn_u64 (by omega) (by omega))) <| lw_v (.pointer (some ⟨g18, o19 + i * 13, none⟩)) (dv_indexM (g := g18) (o := o19) (l := l) (c := cc) (i := i) (j := (i : Int)) (m := 13) us29 sz56 (T rfl rfl) (T rfl rfl) (by omega) (by first | omega | (simp; done) | (simp; omega))) <| lw_v (.pointer (some ⟨g18, o19 + (i * 13), none⟩)) (dv_fieldW (g := g18) (o := o19) (i := i * 13) fo56_0 (T rfl rfl)) <| lw_v (.pointer (some ⟨g18, o19 + (i * 13 + 8), none⟩)) (dv_fieldW (g := g18) (o := o19) (i := i * 13) fo35_2 (T rfl rfl)) <| lw_v (.pointer (some ⟨g18, o19 + (i * 13 + 10), none⟩)) (dv_fieldW (g := g18) (o := o19) (i := i * 13 + 8) fo33_2 (T rfl rfl)) <| lw_e (oe_storeWd (lo := lo) (hi := hi) (x := x) (l := l) (g := g18) (o := o19) (i := i) (j := 10) (z := (((((((((kk + 1) + 1) + 1) + 1) + 1) + 1) + 1) + 1) + 1) + 1) sz23 (T rfl rfl) (T rfl rfl) hN57 (by decide) (by first | omega | (simp; done) | (simp; omega)) (by decide) ?_)
   intro w60 hN61 x62
   have E63 := below_mid E59 (Nat.le_refl _) (Nat.le_trans hb0 E59.size) x62
   refine qN <| lw_v (qi ((((((((((kk + 1) + 1) + 1) + 1) + 1) + 1) + 1) + 1) + 1) + 1)) (dv_move (T rfl rfl)) <| lw_v (qi (((((((((((kk + 1) + 1) + 1) + 1) + 1) + 1) + 1) + 1) + 1) + 1) + 1)) (dv_add (a := (((((((((kk + 1) + 1) + 1) + 1) + 1) + 1) + 1) + 1) + 1) + 1) (b := 1) (z := ((((((((((kk + 1) + 1) + 1) + 1) + 1) + 1) + 1) + 1) + 1) + 1) + 1) (T rfl rfl) C (wr_i64 (by omega) (by omega))) <| lw_v (qi (((((((((((kk + 1) + 1) + 1) + 1) + 1) + 1) + 1) + 1) + 1) + 1) + 1)) (dv_assign (T rfl rfl)) <| qN <| lw_v (.slice (some ⟨g18, o19, none⟩) l cc) (dv_move (T rfl f6)) <| lw_v (qi (i : Int)) (dv_move (T rfl f9)) ?_
   refine lw_v (qi (((((((((((kk + 1) + 1) + 1) + 1) + 1) + 1) + 1) + 1) + 1) + 1) + 1)) (dv_move (T rfl rfl)) <| lw_v (qu (((((((((((kk + 1) + 1) + 1) + 1) + 1) + 1) + 1) + 1) + 1) + 1) + 1)) (dv_conv (a := ((((((((((kk + 1) + 1) + 1) + 1) + 1) + 1) + 1) + 1) + 1) + 1) + 1) (z := ((((((((((kk + 1) + 1) + 1) + 1) + 1) + 1) + 1) + 1) + 1) + 1) + 1) ui3 ui23 (T rfl rfl) (wn_u64 (by omega) (by omega))) <| lw_v (.pointer (some ⟨g18, o19 + i * 13, none⟩)) (dv_indexM (g := g18) (o := o19) (l := l) (c := cc) (i := i) (j := (i : Int)) (m := 13) us29 sz56 (T rfl rfl) (T rfl rfl) (by omega) (by first | omega | (simp; done) | (simp; omega))) <| lw_v (.pointer (some ⟨g18, o19 + (i * 13), none⟩)) (dv_fieldW (g := g18) (o := o19) (i := i * 13) fo56_0 (T rfl rfl)) <| lw_v (.pointer (some ⟨g18, o19 + (i * 13 + 8), none⟩)) (dv_fieldW (g := g18) (o := o19) (i := i * 13) fo35_2 (T rfl rfl)) <| lw_v (.pointer (some ⟨g18, o19 + (i * 13 + 11), none⟩)) (dv_fieldW (g := g18) (o := o19) (i := i * 13 + 8) fo33_3 (T rfl rfl)) <| lw_e (oe_storeWd (lo := lo) (hi := hi) (x := x) (l := l) (g := g18) (o := o19) (i := i) (j := 11) (z := ((((((((((kk + 1) + 1) + 1) + 1) + 1) + 1) + 1) + 1) + 1) + 1) + 1) sz23 (T rfl rfl) (T rfl rfl) hN61 (by decide) (by first | omega | (simp; done) | (simp; omega)) (by decide) ?_)
   intro w64 hN65 x66
   have E67 := below_mid E63 (Nat.le_refl _) (Nat.le_trans hb0 E63.size) x66
   refine qN <| lw_v (qi (((((((((((kk + 1) + 1) + 1) + 1) + 1) + 1) + 1) + 1) + 1) + 1) + 1)) (dv_move (T rfl rfl)) <| lw_v (qi ((((((((((((kk + 1) + 1) + 1) + 1) + 1) + 1) + 1) + 1) + 1) + 1) + 1) + 1)) (dv_add (a := ((((((((((kk + 1) + 1) + 1) + 1) + 1) + 1) + 1) + 1) + 1) + 1) + 1) (b := 1) (z := (((((((((((kk + 1) + 1) + 1) + 1) + 1) + 1) + 1) + 1) + 1) + 1) + 1) + 1) (T rfl rfl) C (wr_i64 (by omega) (by omega))) <| lw_v (qi ((((((((((((kk + 1) + 1) + 1) + 1) + 1) + 1) + 1) + 1) + 1) + 1) + 1) + 1)) (dv_assign (T rfl rfl)) <| lw_nil <| rk_reg <| lw_v (.slice (some ⟨g18, o19, none⟩) l cc) (dv_move (T rfl f6)) <| lw_v (qi (i : Int)) (dv_move (T rfl f9)) <| lw_v (.pointer (some ⟨g18, o19 + i * 13, none⟩)) (dv_indexM (g := g18) (o := o19) (l := l) (c := cc) (i := i) (j := (i : Int)) (m := 13) us29 sz56 (T rfl rfl) (T rfl rfl) (by omega) (by first | omega | (simp; done) | (simp; omega))) ?_
   refine lw_v (.pointer (some ⟨g18, o19 + (i * 13 + 12), none⟩)) (dv_fieldW (g := g18) (o := o19) (i := i * 13) fo56_1 (T rfl rfl)) <| lw_v (.slice As13 ((E' i).length) cs14) (dv_load agt41 (T rfl rfl) (NR.slA (i := i) hN65.nr (by first | omega | (simp; done) | (simp; omega)) hAs15 hcs16)) <| lw_v (qi ((((((((((((kk + 1) + 1) + 1) + 1) + 1) + 1) + 1) + 1) + 1) + 1) + 1) + 1)) (dv_move (T rfl rfl)) <| lw_e (oe_callf (vs := [.slice As13 ((E' i).length) cs14, qi ((((((((((((kk + 1) + 1) + 1) + 1) + 1) + 1) + 1) + 1) + 1) + 1) + 1) + 1)]) co31 (ar2 (T rfl rfl) (T rfl rfl)) (markInner_ok (i := i) hN65 (by first | omega | (simp; done) | (simp; omega)) hAs15 hcs16 rfl (by first | omega | (simp; done) | (simp; omega)) (by omega)) ?_)
   rintro _ w69 ⟨rfl, e70, hN68⟩
   have E71 := below_mid E67 (Nat.le_refl _) (Nat.le_trans hb0 E67.size) e70
   refine lw_v (qi (((((((((((((kk + 1) + 1) + 1) + 1) + 1) + 1) + 1) + 1) + 1) + 1) + 1) + 1) + ((E' i).length : Int))) (dv_assign (T rfl rfl)) <| lw_nil <| rk_inBlock <| rk_reg <| lw_v (qi (i : Int)) (dv_move (T rfl f9)) <| lw_v (qi ((i : Int) + 1)) (dv_add (a := (i : Int)) (b := 1) (z := (i : Int) + 1) (T rfl rfl) C (wr_i64 (by omega) (by omega))) <| lw_v (qi ((i : Int) + 1)) (dv_assign (T rfl rfl)) <| lw_nil ?_
   exact ih3 (l - (i + 1)) _ _ (by rw [hd12]; omega) ⟨(i + 1), (((((((((((((kk + 1) + 1) + 1) + 1) + 1) + 1) + 1) + 1) + 1) + 1) + 1) + 1) + ((E' i).length : Int)), (upW ((upW ((upW ((upW ((upW ((upW ((upW ((upW ((upW ((upW ((upW (upW W' i 0 kk) i 1 (kk + 1))) i 2 ((kk + 1) + 1))) i 3 (((kk + 1) + 1) + 1))) i 4 ((((kk + 1) + 1) + 1) + 1))) i 5 (((((kk + 1) + 1) + 1) + 1) + 1))) i 6 ((((((kk + 1) + 1) + 1) + 1) + 1) + 1))) i 7 (((((((kk + 1) + 1) + 1) + 1) + 1) + 1) + 1))) i 8 ((((((((kk + 1) + 1) + 1) + 1) + 1) + 1) + 1) + 1))) i 9 (((((((((kk + 1) + 1) + 1) + 1) + 1) + 1) + 1) + 1) + 1))) i 10 ((((((((((kk + 1) + 1) + 1) + 1) + 1) + 1) + 1) + 1) + 1) + 1))) i 11 (((((((((((kk + 1) + 1) + 1) + 1) + 1) + 1) + 1) + 1) + 1) + 1) + 1)), (updA E' i (mkL ((((((((((((kk + 1) + 1) + 1) + 1) + 1) + 1) + 1) + 1) + 1) + 1) + 1) + 1) ((E' i).length))), rfl, f6, (rfl), f8, (vi (by omega)), E71, hN68, (by omega), (by rw [kAt_s]; omega), (upE_len hlen (mkL_len _ _)), (mkd_step hmd hlen (by omega) (by omega) (by omega) (by omega) (by omega) (by omega) (by omega) (by omega) (by omega) (by omega) (by omega) (by omega) (by omega)), (((((((((((((hMid.trans x22).trans x26).trans x30).trans x34).trans x38).trans x42).trans x46).trans x50).trans x54).trans x58).trans x62).trans x66).trans e70)⟩
 · refine rk_cf (T rfl (qF hb17)) <| rk_exit rfl <| rk_seq <| rk_reg <| lw_v (qi kk) (dv_move (T rfl f7)) <| lw_v (qi kk) (dv_assign (T rfl rfl)) <| lw_nil <| rk_ret Tryz.func10 (v := qi kk) (res1 Tryz.results10 (rv_tmp rfl rfl)) ⟨_, rfl, ?_⟩
   obtain rfl : i = l := by omega
   exact ⟨W', E', vi hkk, hMid, h11, hlen, hmd⟩
set_option maxHeartbeats 1000000 in
theorem heldInt64S_ok {w : World} {A : Option Addr} {n c : Nat} {xs : List Int} (hx : RdI w .i64 A xs) {k : Int} (hxl : xs.length = n) (hxb : n ≤ 1048576) (hm : xs = mkL k n) (hk : 0 ≤ k ∧ k ≤ 1152921504606846976) : Ct Tryz.prog 32 [.slice A n c, .int .i64 k] w fun v w1 => v = .int .i64 (k + (n : Int)) ∧ Ext w w1 := by
 refine ct_run (n := 21) Tryz.func32 rfl Tryz.ntmps32 rfl ?_
 have E0 : Below w.heap.size w w := Below.refl _ _
 refine rk_seq <| rk_reg <| lw_v (qi 0) (dv_assign C) <| lw_nil <| rk_seq <| rk_seq <| rk_reg <| lw_v (qi 0) (dv_assign C) <| lw_nil <| rk_block <| rk_loop (fun dm_ fr wl => ∃ (i : Nat), dm_ = n - i ∧ fr 0 = .slice A n c ∧ fr 1 = qi (k + (i : Int)) ∧ fr 5 = qi (i : Int) ∧ Below w.heap.size w wl ∧ (i ≤ n)) (n - 0) ⟨0, rfl, rfl, (vi (by omega)), (vi (by omega)), E0, (Nat.zero_le _)⟩ ?_
 intro d5 fr4 w1 hI2 ih3
 obtain ⟨i, hd10, f6, f7, f8, E9, hi⟩ := hI2
 refine rk_seq <| rk_seq <| rk_reg <| lw_v (qi (i : Int)) (dv_move (T rfl f8)) <| lw_v (.slice A n c) (dv_move (T rfl f6)) <| lw_v (qi (n : Int)) (dv_len (ad := A) (l := n) (c := c) us41 (T rfl rfl)) <| lw_v (qd ((i : Int) < (n : Int))) (dv_lss (a := (i : Int)) (b := (n : Int)) (T rfl rfl) (T rfl rfl)) <| lw_nil ?_
 by_cases hb11 : ((i : Int)) < ((n : Int))
 · refine rk_ct (T rfl (qT hb11)) <| rk_skip <| rk_seq <| rk_block <| rk_seq <| rk_seq <| rk_reg <| lw_v (.slice A n c) (dv_move (T rfl f6)) <| lw_v (qi (i : Int)) (dv_move (T rfl f8)) ?_
   have h12 := (hx.ext E9)
   obtain ⟨g13, o14, rfl⟩ := RdI.at h12 (by first | omega | (simp; done) | (simp; omega))
   refine lw_v (.pointer (some ⟨g13, o14 + i, none⟩)) (dv_indexW (g := g13) (o := o14) (l := n) (c := c) (i := i) (j := (i : Int)) us41 sz2 (T rfl rfl) (T rfl rfl) (by omega) (by first | omega | (simp; done) | (simp; omega))) <| lw_v (qi (xs.getD i 0)) (dv_load agt2 (T rfl rfl) (RdI.cell h12 (by first | omega | (simp; done) | (simp; omega)))) <| lw_v (qi (k + (i : Int))) (dv_move (T rfl f7)) <| lw_v (qd ((xs.getD i 0) ≠ (k + (i : Int)))) (dv_neq (a := xs.getD i 0) (b := k + (i : Int)) (T rfl rfl) (T rfl rfl)) <| lw_nil ?_
   by_cases hb15 : (xs.getD i 0) ≠ (k + (i : Int))
   · refine rk_ct (T rfl (qT hb15)) <| rk_seq <| rk_reg <| lw_v (qi (-1)) (dv_assign C) <| lw_nil <| rk_ret Tryz.func32 (v := qi (-1)) (res1 Tryz.results32 (rv_tmp rfl rfl)) ⟨_, rfl, ?_⟩
     exact absurd ((congrArg (fun q : List Int => q.getD i 0) hm).trans (mkL_getD (by omega))) (by assumption)
   · refine rk_cf (T rfl (qF hb15)) <| rk_skip <| rk_reg <| lw_v (qi (k + (i : Int))) (dv_move (T rfl f7)) <| lw_v (qi ((k + (i : Int)) + 1)) (dv_add (a := k + (i : Int)) (b := 1) (z := (k + (i : Int)) + 1) (T rfl rfl) C (wr_i64 (by omega) (by omega))) <| lw_v (qi ((k + (i : Int)) + 1)) (dv_assign (T rfl rfl)) <| lw_nil <| rk_inBlock <| rk_reg <| lw_v (qi (i : Int)) (dv_move (T rfl f8)) <| lw_v (qi ((i : Int) + 1)) (dv_add (a := (i : Int)) (b := 1) (z := (i : Int) + 1) (T rfl rfl) C (wr_i64 (by omega) (by omega))) ?_
     refine lw_v (qi ((i : Int) + 1)) (dv_assign (T rfl rfl)) <| lw_nil ?_
     exact ih3 (n - (i + 1)) _ _ (by rw [hd10]; omega) ⟨(i + 1), rfl, f6, (vi (by omega)), (vi (by omega)), E9, (by omega)⟩
 · refine rk_cf (T rfl (qF hb11)) <| rk_exit rfl <| rk_seq <| rk_reg <| lw_v (qi (k + (i : Int))) (dv_move (T rfl f7)) <| lw_v (qi (k + (i : Int))) (dv_assign (T rfl rfl)) <| lw_nil <| rk_ret Tryz.func32 (v := qi (k + (i : Int))) (res1 Tryz.results32 (rv_tmp rfl rfl)) ⟨_, rfl, ?_⟩
   exact ⟨vi (by omega), E9⟩
set_option maxRecDepth 100000 in
set_option maxHeartbeats 8000000 in
theorem heldEventS_ok {w : World} {lo hi : Nat} {k0 : Int} {A : Option Addr} {l cc : Nat} {W' : Nat → Nat → Int} {E E' : Nat → List Int} {SL : SlF} (hx : NR w lo hi A l W' E' SL) (hlen : ∀ q, (E' q).length = (E q).length) (hmd : mkd k0 E l W' E') (hEl : ∀ i, i < l → (E i).length ≤ 1048576) (hl : l ≤ 1048576) (hk : 0 ≤ k0 ∧ k0 ≤ 1073741824) : Ct Tryz.prog 11 [.slice A l cc, .int .i64 k0] w fun v w1 => v = .int .i64 (kAt k0 E l) ∧ Ext w w1 := by
 refine ct_run (n := 166) Tryz.func11 rfl Tryz.ntmps11 rfl ?_
 have E0 : Below w.heap.size w w := Below.refl _ _
 refine rk_seq <| rk_reg <| lw_v (qi 0) (dv_assign C) <| lw_nil <| rk_seq <| rk_seq <| rk_reg <| lw_v (qi 0) (dv_assign C) <| lw_nil <| rk_block <| rk_loop (fun dm_ fr wl => ∃ (i : Nat) (kk : Int), dm_ = l - i ∧ fr 0 = .slice A l cc ∧ fr 1 = qi kk ∧ fr 5 = qi (i : Int) ∧ Below w.heap.size w wl ∧ (i ≤ l) ∧ (kk = kAt k0 E i)) (l - 0) ⟨0, k0, rfl, rfl, (rfl), (vi (by omega)), E0, (Nat.zero_le _), rfl⟩ ?_
 intro d5 fr4 w1 hI2 ih3
 obtain ⟨i, kk, hd10, f6, f7, f8, E9, hi_, hkk⟩ := hI2
 obtain ⟨As11, hAs13⟩ : ∃ q_ : Option Addr, q_ = (SL i).1 := ⟨_, rfl⟩
 obtain ⟨cs12, hcs14⟩ : ∃ q_ : Nat, q_ = (SL i).2 := ⟨_, rfl⟩
 have hk1 := kAt_ge k0 E i; have hk2 := kAt_le k0 hEl i hi_; have hen : i < l → (E i).length ≤ 1048576 := fun h_ => hEl i h_
 have hln := hlen i
 refine rk_seq <| rk_seq <| rk_reg <| lw_v (qi (i : Int)) (dv_move (T rfl f8)) <| lw_v (.slice A l cc) (dv_move (T rfl f6)) <| lw_v (qi (l : Int)) (dv_len (ad := A) (l := l) (c := cc) us29 (T rfl rfl)) <| lw_v (qd ((i : Int) < (l : Int))) (dv_lss (a := (i : Int)) (b := (l : Int)) (T rfl rfl) (T rfl rfl)) <| lw_nil ?_
 by_cases hb15 : ((i : Int)) < ((l : Int))
 · refine rk_ct (T rfl (qT hb15)) <| rk_skip <| rk_seq <| rk_block <| rk_seq <| rk_seq <| rk_reg <| lw_v (.slice A l cc) (dv_move (T rfl f6)) <| lw_v (qi (i : Int)) (dv_move (T rfl f8)) ?_
   have h18 := (hx.ext E9)
   obtain ⟨g16, o17, rfl⟩ := NR.at h18 (by first | omega | (simp; done) | (simp; omega))
   refine lw_v (.pointer (some ⟨g16, o17 + i * 13, none⟩)) (dv_indexM (g := g16) (o := o17) (l := l) (c := cc) (i := i) (j := (i : Int)) (m := 13) us29 sz56 (T rfl rfl) (T rfl rfl) (by omega) (by first | omega | (simp; done) | (simp; omega))) <| lw_v (.pointer (some ⟨g16, o17 + (i * 13), none⟩)) (dv_fieldW (g := g16) (o := o17) (i := i * 13) fo56_0 (T rfl rfl)) <| lw_v (.pointer (some ⟨g16, o17 + (i * 13), none⟩)) (dv_fieldW (g := g16) (o := o17) (i := i * 13) fo35_0 (T rfl rfl)) <| lw_v (.pointer (some ⟨g16, o17 + (i * 13), none⟩)) (dv_fieldW (g := g16) (o := o17) (i := i * 13) fo33_0 (T rfl rfl)) <| lw_v (qu (W' i 0)) (dv_load agt23 (T rfl rfl) (NR.word (i := i) (j := 0) h18 (by first | omega | (simp; done) | (simp; omega)) (by decide))) <| lw_v (qi kk) (dv_move (T rfl f7)) <| lw_v (qu kk) (dv_conv (a := kk) (z := kk) ui3 ui23 (T rfl rfl) (wn_u64 (by omega) (by omega))) <| lw_v (qd ((W' i 0) ≠ kk)) (dv_neq (a := W' i 0) (b := kk) (T rfl rfl) (T rfl rfl)) <| lw_nil ?_
   by_cases hb19 : (W' i 0) ≠ kk
   · refine rk_ct (T rfl (qT hb19)) <| rk_seq <| rk_reg <| lw_v (qi (-1)) (dv_assign C) <| lw_nil <| rk_ret Tryz.func11 (v := qi (-1)) (res1 Tryz.results11 (rv_tmp rfl rfl)) ⟨_, rfl, ?_⟩
     exfalso
     have hw_ := (hmd i (by omega)).1
     have w0_ := hw_ 0 (by decide); have w1_ := hw_ 1 (by decide); have w2_ := hw_ 2 (by decide); have w3_ := hw_ 3 (by decide); have w4_ := hw_ 4 (by decide); have w5_ := hw_ 5 (by decide); have w6_ := hw_ 6 (by decide); have w7_ := hw_ 7 (by decide); have w8_ := hw_ 8 (by decide); have w9_ := hw_ 9 (by decide); have w10_ := hw_ 10 (by decide); have w11_ := hw_ 11 (by decide)
     omega
   · refine rk_cf (T rfl (qF hb19)) <| rk_skip <| rk_seq <| rk_reg <| lw_v (qi kk) (dv_move (T rfl f7)) <| lw_v (qi (kk + 1)) (dv_add (a := kk) (b := 1) (z := kk + 1) (T rfl rfl) C (wr_i64 (by omega) (by omega))) <| lw_v (qi (kk + 1)) (dv_assign (T rfl rfl)) <| lw_nil <| rk_seq <| rk_seq <| rk_reg ?_
     refine lw_v (.slice (some ⟨g16, o17, none⟩) l cc) (dv_move (T rfl f6)) <| lw_v (qi (i : Int)) (dv_move (T rfl f8)) <| lw_v (.pointer (some ⟨g16, o17 + i * 13, none⟩)) (dv_indexM (g := g16) (o := o17) (l := l) (c := cc) (i := i) (j := (i : Int)) (m := 13) us29 sz56 (T rfl rfl) (T rfl rfl) (by omega) (by first | omega | (simp; done) | (simp; omega))) <| lw_v (.pointer (some ⟨g16, o17 + (i * 13), none⟩)) (dv_fieldW (g := g16) (o := o17) (i := i * 13) fo56_0 (T rfl rfl)) <| lw_v (.pointer (some ⟨g16, o17 + (i * 13), none⟩)) (dv_fieldW (g := g16) (o := o17) (i := i * 13) fo35_0 (T rfl rfl)) <| lw_v (.pointer (some ⟨g16, o17 + (i * 13 + 1), none⟩)) (dv_fieldW (g := g16) (o := o17) (i := i * 13) fo33_1 (T rfl rfl)) <| lw_v (qu (W' i 1)) (dv_load agt23 (T rfl rfl) (NR.word (i := i) (j := 1) h18 (by first | omega | (simp; done) | (simp; omega)) (by decide))) <| lw_v (qi (kk + 1)) (dv_move (T rfl rfl)) <| lw_v (qu (kk + 1)) (dv_conv (a := kk + 1) (z := kk + 1) ui3 ui23 (T rfl rfl) (wn_u64 (by omega) (by omega))) <| lw_v (qd ((W' i 1) ≠ (kk + 1))) (dv_neq (a := W' i 1) (b := kk + 1) (T rfl rfl) (T rfl rfl)) <| lw_nil ?_
     by_cases hb20 : (W' i 1) ≠ (kk + 1)
     · refine rk_ct (T rfl (qT hb20)) <| rk_seq <| rk_reg <| lw_v (qi (-1)) (dv_assign C) <| lw_nil <| rk_ret Tryz.func11 (v := qi (-1)) (res1 Tryz.results11 (rv_tmp rfl rfl)) ⟨_, rfl, ?_⟩
       exfalso
       have hw_ := (hmd i (by omega)).1
       have w0_ := hw_ 0 (by decide); have w1_ := hw_ 1 (by decide); have w2_ := hw_ 2 (by decide); have w3_ := hw_ 3 (by decide); have w4_ := hw_ 4 (by decide); have w5_ := hw_ 5 (by decide); have w6_ := hw_ 6 (by decide); have w7_ := hw_ 7 (by decide); have w8_ := hw_ 8 (by decide); have w9_ := hw_ 9 (by decide); have w10_ := hw_ 10 (by decide); have w11_ := hw_ 11 (by decide)
       omega
     · refine rk_cf (T rfl (qF hb20)) <| rk_skip <| rk_seq <| rk_reg <| lw_v (qi (kk + 1)) (dv_move (T rfl rfl)) <| lw_v (qi ((kk + 1) + 1)) (dv_add (a := kk + 1) (b := 1) (z := (kk + 1) + 1) (T rfl rfl) C (wr_i64 (by omega) (by omega))) <| lw_v (qi ((kk + 1) + 1)) (dv_assign (T rfl rfl)) <| lw_nil <| rk_seq <| rk_seq <| rk_reg ?_
       refine lw_v (.slice (some ⟨g16, o17, none⟩) l cc) (dv_move (T rfl f6)) <| lw_v (qi (i : Int)) (dv_move (T rfl f8)) <| lw_v (.pointer (some ⟨g16, o17 + i * 13, none⟩)) (dv_indexM (g := g16) (o := o17) (l := l) (c := cc) (i := i) (j := (i : Int)) (m := 13) us29 sz56 (T rfl rfl) (T rfl rfl) (by omega) (by first | omega | (simp; done) | (simp; omega))) <| lw_v (.pointer (some ⟨g16, o17 + (i * 13), none⟩)) (dv_fieldW (g := g16) (o := o17) (i := i * 13) fo56_0 (T rfl rfl)) <| lw_v (.pointer (some ⟨g16, o17 + (i * 13), none⟩)) (dv_fieldW (g := g16) (o := o17) (i := i * 13) fo35_0 (T rfl rfl)) <| lw_v (.pointer (some ⟨g16, o17 + (i * 13 + 2), none⟩)) (dv_fieldW (g := g16) (o := o17) (i := i * 13) fo33_2 (T rfl rfl)) <| lw_v (qu (W' i 2)) (dv_load agt23 (T rfl rfl) (NR.word (i := i) (j := 2) h18 (by first | omega | (simp; done) | (simp; omega)) (by decide))) <| lw_v (qi ((kk + 1) + 1)) (dv_move (T rfl rfl)) <| lw_v (qu ((kk + 1) + 1)) (dv_conv (a := (kk + 1) + 1) (z := (kk + 1) + 1) ui3 ui23 (T rfl rfl) (wn_u64 (by omega) (by omega))) <| lw_v (qd ((W' i 2) ≠ ((kk + 1) + 1))) (dv_neq (a := W' i 2) (b := (kk + 1) + 1) (T rfl rfl) (T rfl rfl)) <| lw_nil ?_
       by_cases hb21 : (W' i 2) ≠ ((kk + 1) + 1)
       · refine rk_ct (T rfl (qT hb21)) <| rk_seq <| rk_reg <| lw_v (qi (-1)) (dv_assign C) <| lw_nil <| rk_ret Tryz.func11 (v := qi (-1)) (res1 Tryz.results11 (rv_tmp rfl rfl)) ⟨_, rfl, ?_⟩
         exfalso
         have hw_ := (hmd i (by omega)).1
         have w0_ := hw_ 0 (by decide); have w1_ := hw_ 1 (by decide); have w2_ := hw_ 2 (by decide); have w3_ := hw_ 3 (by decide); have w4_ := hw_ 4 (by decide); have w5_ := hw_ 5 (by decide); have w6_ := hw_ 6 (by decide); have w7_ := hw_ 7 (by decide); have w8_ := hw_ 8 (by decide); have w9_ := hw_ 9 (by decide); have w10_ := hw_ 10 (by decide); have w11_ := hw_ 11 (by decide)
         omega
       · refine rk_cf (T rfl (qF hb21)) <| rk_skip <| rk_seq <| rk_reg <| lw_v (qi ((kk + 1) + 1)) (dv_move (T rfl rfl)) <| lw_v (qi (((kk + 1) + 1) + 1)) (dv_add (a := (kk + 1) + 1) (b := 1) (z := ((kk + 1) + 1) + 1) (T rfl rfl) C (wr_i64 (by omega) (by omega))) <| lw_v (qi (((kk + 1) + 1) + 1)) (dv_assign (T rfl rfl)) <| lw_nil <| rk_seq <| rk_seq <| rk_reg ?_
         refine lw_v (.slice (some ⟨g16, o17, none⟩) l cc) (dv_move (T rfl f6)) <| lw_v (qi (i : Int)) (dv_move (T rfl f8)) <| lw_v (.pointer (some ⟨g16, o17 + i * 13, none⟩)) (dv_indexM (g := g16) (o := o17) (l := l) (c := cc) (i := i) (j := (i : Int)) (m := 13) us29 sz56 (T rfl rfl) (T rfl rfl) (by omega) (by first | omega | (simp; done) | (simp; omega))) <| lw_v (.pointer (some ⟨g16, o17 + (i * 13), none⟩)) (dv_fieldW (g := g16) (o := o17) (i := i * 13) fo56_0 (T rfl rfl)) <| lw_v (.pointer (some ⟨g16, o17 + (i * 13), none⟩)) (dv_fieldW (g := g16) (o := o17) (i := i * 13) fo35_0 (T rfl rfl)) <| lw_v (.pointer (some ⟨g16, o17 + (i * 13 + 3), none⟩)) (dv_fieldW (g := g16) (o := o17) (i := i * 13) fo33_3 (T rfl rfl)) <| lw_v (qu (W' i 3)) (dv_load agt23 (T rfl rfl) (NR.word (i := i) (j := 3) h18 (by first | omega | (simp; done) | (simp; omega)) (by decide))) <| lw_v (qi (((kk + 1) + 1) + 1)) (dv_move (T rfl rfl)) <| lw_v (qu (((kk + 1) + 1) + 1)) (dv_conv (a := ((kk + 1) + 1) + 1) (z := ((kk + 1) + 1) + 1) ui3 ui23 (T rfl rfl) (wn_u64 (by omega) (by omega))) <| lw_v (qd ((W' i 3) ≠ (((kk + 1) + 1) + 1))) (dv_neq (a := W' i 3) (b := ((kk + 1) + 1) + 1) (T rfl rfl) (T rfl rfl)) <| lw_nil ?_
         by_cases hb22 : (W' i 3) ≠ (((kk + 1) + 1) + 1)
         · refine rk_ct (T rfl (qT hb22)) <| rk_seq <| rk_reg <| lw_v (qi (-1)) (dv_assign C) <| lw_nil <| rk_ret Tryz.func11 (v := qi (-1)) (res1 Tryz.results11 (rv_tmp rfl rfl)) ⟨_, rfl, ?_⟩
           exfalso
           have hw_ := (hmd i (by omega)).1
           have w0_ := hw_ 0 (by decide); have w1_ := hw_ 1 (by decide); have w2_ := hw_ 2 (by decide); have w3_ := hw_ 3 (by decide); have w4_ := hw_ 4 (by decide); have w5_ := hw_ 5 (by decide); have w6_ := hw_ 6 (by decide); have w7_ := hw_ 7 (by decide); have w8_ := hw_ 8 (by decide); have w9_ := hw_ 9 (by decide); have w10_ := hw_ 10 (by decide); have w11_ := hw_ 11 (by decide)
           omega
         · refine rk_cf (T rfl (qF hb22)) <| rk_skip <| rk_seq <| rk_reg <| lw_v (qi (((kk + 1) + 1) + 1)) (dv_move (T rfl rfl)) <| lw_v (qi ((((kk + 1) + 1) + 1) + 1)) (dv_add (a := ((kk + 1) + 1) + 1) (b := 1) (z := (((kk + 1) + 1) + 1) + 1) (T rfl rfl) C (wr_i64 (by omega) (by omega))) <| lw_v (qi ((((kk + 1) + 1) + 1) + 1)) (dv_assign (T rfl rfl)) <| lw_nil <| rk_seq <| rk_seq <| rk_reg ?_
           refine lw_v (.slice (some ⟨g16, o17, none⟩) l cc) (dv_move (T rfl f6)) <| lw_v (qi (i : Int)) (dv_move (T rfl f8)) <| lw_v (.pointer (some ⟨g16, o17 + i * 13, none⟩)) (dv_indexM (g := g16) (o := o17) (l := l) (c := cc) (i := i) (j := (i : Int)) (m := 13) us29 sz56 (T rfl rfl) (T rfl rfl) (by omega) (by first | omega | (simp; done) | (simp; omega))) <| lw_v (.pointer (some ⟨g16, o17 + (i * 13), none⟩)) (dv_fieldW (g := g16) (o := o17) (i := i * 13) fo56_0 (T rfl rfl)) <| lw_v (.pointer (some ⟨g16, o17 + (i * 13 + 4), none⟩)) (dv_fieldW (g := g16) (o := o17) (i := i * 13) fo35_1 (T rfl rfl)) <| lw_v (.pointer (some ⟨g16, o17 + (i * 13 + 4), none⟩)) (dv_fieldW (g := g16) (o := o17) (i := i * 13 + 4) fo33_0 (T rfl rfl)) <| lw_v (qu (W' i 4)) (dv_load agt23 (T rfl rfl) (NR.word (i := i) (j := 4) h18 (by first | omega | (simp; done) | (simp; omega)) (by decide))) <| lw_v (qi ((((kk + 1) + 1) + 1) + 1)) (dv_move (T rfl rfl)) <| lw_v (qu ((((kk + 1) + 1) + 1) + 1)) (dv_conv (a := (((kk + 1) + 1) + 1) + 1) (z := (((kk + 1) + 1) + 1) + 1) ui3 ui23 (T rfl rfl) (wn_u64 (by omega) (by omega))) <| lw_v (qd ((W' i 4) ≠ ((((kk + 1) + 1) + 1) + 1))) (dv_neq (a := W' i 4) (b := (((kk + 1) + 1) + 1) + 1) (T rfl rfl) (T rfl rfl)) <| lw_nil ?_
           by_cases hb23 : (W' i 4) ≠ ((((kk + 1) + 1) + 1) + 1)
           · refine rk_ct (T rfl (qT hb23)) <| rk_seq <| rk_reg <| lw_v (qi (-1)) (dv_assign C) <| lw_nil <| rk_ret Tryz.func11 (v := qi (-1)) (res1 Tryz.results11 (rv_tmp rfl rfl)) ⟨_, rfl, ?_⟩
             exfalso
             have hw_ := (hmd i (by omega)).1
             have w0_ := hw_ 0 (by decide); have w1_ := hw_ 1 (by decide); have w2_ := hw_ 2 (by decide); have w3_ := hw_ 3 (by decide); have w4_ := hw_ 4 (by decide); have w5_ := hw_ 5 (by decide); have w6_ := hw_ 6 (by decide); have w7_ := hw_ 7 (by decide); have w8_ := hw_ 8 (by decide); have w9_ := hw_ 9 (by decide); have w10_ := hw_ 10 (by decide); have w11_ := hw_ 11 (by decide)
             omega
           · refine rk_cf (T rfl (qF hb23)) <| rk_skip <| rk_seq <| rk_reg <| lw_v (qi ((((kk + 1) + 1) + 1) + 1)) (dv_move (T rfl rfl)) <| lw_v (qi (((((kk + 1) + 1) + 1) + 1) + 1)) (dv_add (a := (((kk + 1) + 1) + 1) + 1) (b := 1) (z := ((((kk + 1) + 1) + 1) + 1) + 1) (T rfl rfl) C (wr_i64 (by omega) (by omega))) <| lw_v (qi (((((kk + 1) + 1) + 1) + 1) + 1)) (dv_assign (T rfl rfl)) <| lw_nil <| rk_seq <| rk_seq <| rk_reg ?_
             refine lw_v (.slice (some ⟨g16, o17, none⟩) l cc) (dv_move (T rfl f6)) <| lw_v (qi (i : Int)) (dv_move (T rfl f8)) <| lw_v (.pointer (some ⟨g16, o17 + i * 13, none⟩)) (dv_indexM (g := g16) (o := o17) (l := l) (c := cc) (i := i) (j := (i : Int)) (m := 13) us29 sz56 (T rfl rfl) (T rfl rfl) (by omega) (by first | omega | (simp; done) | (simp; omega))) <| lw_v (.pointer (some ⟨g16, o17 + (i * 13), none⟩)) (dv_fieldW (g := g16) (o := o17) (i := i * 13) fo56_0 (T rfl rfl)) <| lw_v (.pointer (some ⟨g16, o17 + (i * 13 + 4), none⟩)) (dv_fieldW (g := g16) (o := o17) (i := i * 13) fo35_1 (T rfl rfl)) <| lw_v (.pointer (some ⟨g16, o17 + (i * 13 + 5), none⟩)) (dv_fieldW (g := g16) (o := o17) (i := i * 13 + 4) fo33_1 (T rfl rfl)) <| lw_v (qu (W' i 5)) (dv_load agt23 (T rfl rfl) (NR.word (i := i) (j := 5) h18 (by first | omega | (simp; done) | (simp; omega)) (by decide))) <| lw_v (qi (((((kk + 1) + 1) + 1) + 1) + 1)) (dv_move (T rfl rfl)) <| lw_v (qu (((((kk + 1) + 1) + 1) + 1) + 1)) (dv_conv (a := ((((kk + 1) + 1) + 1) + 1) + 1) (z := ((((kk + 1) + 1) + 1) + 1) + 1) ui3 ui23 (T rfl rfl) (wn_u64 (by omega) (by omega))) <| lw_v (qd ((W' i 5) ≠ (((((kk + 1) + 1) + 1) + 1) + 1))) (dv_neq (a := W' i 5) (b := ((((kk + 1) + 1) + 1) + 1) + 1) (T rfl rfl) (T rfl rfl)) <| lw_nil ?_
             by_cases hb24 : (W' i 5) ≠ (((((kk + 1) + 1) + 1) + 1) + 1)
             · refine rk_ct (T rfl (qT hb24)) <| rk_seq <| rk_reg <| lw_v (qi (-1)) (dv_assign C) <| lw_nil <| rk_ret Tryz.func11 (v := qi (-1)) (res1 Tryz.results11 (rv_tmp rfl rfl)) ⟨_, rfl, ?_⟩
               exfalso
               have hw_ := (hmd i (by omega)).1
               have w0_ := hw_ 0 (by decide); have w1_ := hw_ 1 (by decide); have w2_ := hw_ 2 (by decide); have w3_ := hw_ 3 (by decide); have w4_ := hw_ 4 (by decide); have w5_ := hw_ 5 (by decide); have w6_ := hw_ 6 (by decide); have w7_ := hw_ 7 (by decide); have w8_ := hw_ 8 (by decide); have w9_ := hw_ 9 (by decide); have w10_ := hw_ 10 (by decide); have w11_ := hw_ 11 (by decide)
               omega
             · refine rk_cf (T rfl (qF hb24)) <| rk_skip <| rk_seq <| rk_reg <| lw_v (qi (((((kk + 1) + 1) + 1) + 1) + 1)) (dv_move (T rfl rfl)) <| lw_v (qi ((((((kk + 1) + 1) + 1) + 1) + 1) + 1)) (dv_add (a := ((((kk + 1) + 1) + 1) + 1) + 1) (b := 1) (z := (((((kk + 1) + 1) + 1) + 1) + 1) + 1) (T rfl rfl) C (wr_i64 (by omega) (by omega))) <| lw_v (qi ((((((kk + 1) + 1) + 1) + 1) + 1) + 1)) (dv_assign (T rfl rfl)) <| lw_nil <| rk_seq <| rk_seq <| rk_reg ?_
               refine lw_v (.slice (some ⟨g16, o17, none⟩) l cc) (dv_move (T rfl f6)) <| lw_v (qi (i : Int)) (dv_move (T rfl f8)) <| lw_v (.pointer (some ⟨g16, o17 + i * 13, none⟩)) (dv_indexM (g := g16) (o := o17) (l := l) (c := cc) (i := i) (j := (i : Int)) (m := 13) us29 sz56 (T rfl rfl) (T rfl rfl) (by omega) (by first | omega | (simp; done) | (simp; omega))) <| lw_v (.pointer (some ⟨g16, o17 + (i * 13), none⟩)) (dv_fieldW (g := g16) (o := o17) (i := i * 13) fo56_0 (T rfl rfl)) <| lw_v (.pointer (some ⟨g16, o17 + (i * 13 + 4), none⟩)) (dv_fieldW (g := g16) (o := o17) (i := i * 13) fo35_1 (T rfl rfl)) <| lw_v (.pointer (some ⟨g16, o17 + (i * 13 + 6), none⟩)) (dv_fieldW (g := g16) (o := o17) (i := i * 13 + 4) fo33_2 (T rfl rfl)) <| lw_v (qu (W' i 6)) (dv_load agt23 (T rfl rfl) (NR.word (i := i) (j := 6) h18 (by first | omega | (simp; done) | (simp; omega)) (by decide))) <| lw_v (qi ((((((kk + 1) + 1) + 1) + 1) + 1) + 1)) (dv_move (T rfl rfl)) <| lw_v (qu ((((((kk + 1) + 1) + 1) + 1) + 1) + 1)) (dv_conv (a := (((((kk + 1) + 1) + 1) + 1) + 1) + 1) (z := (((((kk + 1) + 1) + 1) + 1) + 1) + 1) ui3 ui23 (T rfl rfl) (wn_u64 (by omega) (by omega))) <| lw_v (qd ((W' i 6) ≠ ((((((kk + 1) + 1) + 1) + 1) + 1) + 1))) (dv_neq (a := W' i 6) (b := (((((kk + 1) + 1) + 1) + 1) + 1) + 1) (T rfl rfl) (T rfl rfl)) <| lw_nil ?_
               by_cases hb25 : (W' i 6) ≠ ((((((kk + 1) + 1) + 1) + 1) + 1) + 1)
               · refine rk_ct (T rfl (qT hb25)) <| rk_seq <| rk_reg <| lw_v (qi (-1)) (dv_assign C) <| lw_nil <| rk_ret Tryz.func11 (v := qi (-1)) (res1 Tryz.results11 (rv_tmp rfl rfl)) ⟨_, rfl, ?_⟩
                 exfalso
                 have hw_ := (hmd i (by omega)).1
                 have w0_ := hw_ 0 (by decide); have w1_ := hw_ 1 (by decide); have w2_ := hw_ 2 (by decide); have w3_ := hw_ 3 (by decide); have w4_ := hw_ 4 (by decide); have w5_ := hw_ 5 (by decide); have w6_ := hw_ 6 (by decide); have w7_ := hw_ 7 (by decide); have w8_ := hw_ 8 (by decide); have w9_ := hw_ 9 (by decide); have w10_ := hw_ 10 (by decide); have w11_ := hw_ 11 (by decide)
                 omega
               · refine rk_cf (T rfl (qF hb25)) <| rk_skip <| rk_seq <| rk_reg <| lw_v (qi ((((((kk + 1) + 1) + 1) + 1) + 1) + 1)) (dv_move (T rfl rfl)) <| lw_v (qi (((((((kk + 1) + 1) + 1) + 1) + 1) + 1) + 1)) (dv_add (a := (((((kk + 1) + 1) + 1) + 1) + 1) + 1) (b := 1) (z := ((((((kk + 1) + 1) + 1) + 1) + 1) + 1) + 1) (T rfl rfl) C (wr_i64 (by omega) (by omega))) <| lw_v (qi (((((((kk + 1) + 1) + 1) + 1) + 1) + 1) + 1)) (dv_assign (T rfl rfl)) <| lw_nil <| rk_seq <| rk_seq <| rk_reg ?_
                 refine lw_v (.slice (some ⟨g16, o17, none⟩) l cc) (dv_move (T rfl f6)) <| lw_v (qi (i : Int)) (dv_move (T rfl f8)) <| lw_v (.pointer (some ⟨g16, o17 + i * 13, none⟩)) (dv_indexM (g := g16) (o := o17) (l := l) (c := cc) (i := i) (j := (i : Int)) (m := 13) us29 sz56 (T rfl rfl) (T rfl rfl) (by omega) (by first | omega | (simp; done) | (simp; omega))) <| lw_v (.pointer (some ⟨g16, o17 + (i * 13), none⟩)) (dv_fieldW (g := g16) (o := o17) (i := i * 13) fo56_0 (T rfl rfl)) <| lw_v (.pointer (some ⟨g16, o17 + (i * 13 + 4), none⟩)) (dv_fieldW (g := g16) (o := o17) (i := i * 13) fo35_1 (T rfl rfl)) <| lw_v (.pointer (some ⟨g16, o17 + (i * 13 + 7), none⟩)) (dv_fieldW (g := g16) (o := o17) (i := i * 13 + 4) fo33_3 (T rfl rfl)) <| lw_v (qu (W' i 7)) (dv_load agt23 (T rfl rfl) (NR.word (i := i) (j := 7) h18 (by first | omega | (simp; done) | (simp; omega)) (by decide))) <| lw_v (qi (((((((kk + 1) + 1) + 1) + 1) + 1) + 1) + 1)) (dv_move (T rfl rfl)) <| lw_v (qu (((((((kk + 1) + 1) + 1) + 1) + 1) + 1) + 1)) (dv_conv (a := ((((((kk + 1) + 1) + 1) + 1) + 1) + 1) + 1) (z := ((((((kk + 1) + 1) + 1) + 1) + 1) + 1) + 1) ui3 ui23 (T rfl rfl) (wn_u64 (by omega) (by omega))) <| lw_v (qd ((W' i 7) ≠ (((((((kk + 1) + 1) + 1) + 1) + 1) + 1) + 1))) (dv_neq (a := W' i 7) (b := ((((((kk + 1) + 1) + 1) + 1) + 1) + 1) + 1) (T rfl rfl) (T rfl rfl)) <| lw_nil ?_
                 by_cases hb26 : (W' i 7) ≠ (((((((kk + 1) + 1) + 1) + 1) + 1) + 1) + 1)
                 · refine rk_ct (T rfl (qT hb26)) <| rk_seq <| rk_reg <| lw_v (qi (-1)) (dv_assign C) <| lw_nil <| rk_ret Tryz.func11 (v := qi (-1)) (res1 Tryz.results11 (rv_tmp rfl rfl)) ⟨_, rfl, ?_⟩
                   exfalso
                   have hw_ := (hmd i (by omega)).1
                   have w0_ := hw_ 0 (by decide); have w1_ := hw_ 1 (by decide); have w2_ := hw_ 2 (by decide); have w3_ := hw_ 3 (by decide); have w4_ := hw_ 4 (by decide); have w5_ := hw_ 5 (by decide); have w6_ := hw_ 6 (by decide); have w7_ := hw_ 7 (by decide); have w8_ := hw_ 8 (by decide); have w9_ := hw_ 9 (by decide); have w10_ := hw_ 10 (by decide); have w11_ := hw_ 11 (by decide)
                   omega
                 · refine rk_cf (T rfl (qF hb26)) <| rk_skip <| rk_seq <| rk_reg <| lw_v (qi (((((((kk + 1) + 1) + 1) + 1) + 1) + 1) + 1)) (dv_move (T rfl rfl)) <| lw_v (qi ((((((((kk + 1) + 1) + 1) + 1) + 1) + 1) + 1) + 1)) (dv_add (a := ((((((kk + 1) + 1) + 1) + 1) + 1) + 1) + 1) (b := 1) (z := (((((((kk + 1) + 1) + 1) + 1) + 1) + 1) + 1) + 1) (T rfl rfl) C (wr_i64 (by omega) (by omega))) <| lw_v (qi ((((((((kk + 1) + 1) + 1) + 1) + 1) + 1) + 1) + 1)) (dv_assign (T rfl rfl)) <| lw_nil <| rk_seq <| rk_seq <| rk_reg ?_
                   refine lw_v (.slice (some ⟨g16, o17, none⟩) l cc) (dv_move (T rfl f6)) <| lw_v (qi (i : Int)) (dv_move (T rfl f8)) <| lw_v (.pointer (some ⟨g16, o17 + i * 13, none⟩)) (dv_indexM (g := g16) (o := o17) (l := l) (c := cc) (i := i) (j := (i : Int)) (m := 13) us29 sz56 (T rfl rfl) (T rfl rfl) (by omega) (by first | omega | (simp; done) | (simp; omega))) <| lw_v (.pointer (some ⟨g16, o17 + (i * 13), none⟩)) (dv_fieldW (g := g16) (o := o17) (i := i * 13) fo56_0 (T rfl rfl)) <| lw_v (.pointer (some ⟨g16, o17 + (i * 13 + 8), none⟩)) (dv_fieldW (g := g16) (o := o17) (i := i * 13) fo35_2 (T rfl rfl)) <| lw_v (.pointer (some ⟨g16, o17 + (i * 13 + 8), none⟩)) (dv_fieldW (g := g16) (o := o17) (i := i * 13 + 8) fo33_0 (T rfl rfl)) <| lw_v (qu (W' i 8)) (dv_load agt23 (T rfl rfl) (NR.word (i := i) (j := 8) h18 (by first | omega | (simp; done) | (simp; omega)) (by decide))) <| lw_v (qi ((((((((kk + 1) + 1) + 1) + 1) + 1) + 1) + 1) + 1)) (dv_move (T rfl rfl)) <| lw_v (qu ((((((((kk + 1) + 1) + 1) + 1) + 1) + 1) + 1) + 1)) (dv_conv (a := (((((((kk + 1) + 1) + 1) + 1) + 1) + 1) + 1) + 1) (z := (((((((kk + 1) + 1) + 1) + 1) + 1) + 1) + 1) + 1) ui3 ui23 (T rfl rfl) (wn_u64 (by omega) (by omega))) <| lw_v (qd ((W' i 8) ≠ ((((((((kk + 1) + 1) + 1) + 1) + 1) + 1) + 1) + 1))) (dv_neq (a := W' i 8) (b := (((((((kk + 1) + 1) + 1) + 1) + 1) + 1) + 1) + 1) (T rfl rfl) (T rfl rfl)) <| lw_nil ?_
                   by_cases hb27 : (W' i 8) ≠ ((((((((kk + 1) + 1) + 1) + 1) + 1) + 1) + 1) + 1)
                   · refine rk_ct (T rfl (qT hb27)) <| rk_seq <| rk_reg <| lw_v (qi (-1)) (dv_assign C) <| lw_nil <| rk_ret Tryz.func11 (v := qi (-1)) (res1 Tryz.results11 (rv_tmp rfl rfl)) ⟨_, rfl, ?_⟩
                     exfalso
                     have hw_ := (hmd i (by omega)).1
                     have w0_ := hw_ 0 (by decide); have w1_ := hw_ 1 (by decide); have w2_ := hw_ 2 (by decide); have w3_ := hw_ 3 (by decide); have w4_ := hw_ 4 (by decide); have w5_ := hw_ 5 (by decide); have w6_ := hw_ 6 (by decide); have w7_ := hw_ 7 (by decide); have w8_ := hw_ 8 (by decide); have w9_ := hw_ 9 (by decide); have w10_ := hw_ 10 (by decide); have w11_ := hw_ 11 (by decide)
                     omega
                   · refine rk_cf (T rfl (qF hb27)) <| rk_skip <| rk_seq <| rk_reg <| lw_v (qi ((((((((kk + 1) + 1) + 1) + 1) + 1) + 1) + 1) + 1)) (dv_move (T rfl rfl)) <| lw_v (qi (((((((((kk + 1) + 1) + 1) + 1) + 1) + 1) + 1) + 1) + 1)) (dv_add (a := (((((((kk + 1) + 1) + 1) + 1) + 1) + 1) + 1) + 1) (b := 1) (z := ((((((((kk + 1) + 1) + 1) + 1) + 1) + 1) + 1) + 1) + 1) (T rfl rfl) C (wr_i64 (by omega) (by omega))) <| lw_v (qi (((((((((kk + 1) + 1) + 1) + 1) + 1) + 1) + 1) + 1) + 1)) (dv_assign (T rfl rfl)) <| lw_nil <| rk_seq <| rk_seq <| rk_reg ?_
                     refine lw_v (.slice (some ⟨g16, o17, none⟩) l cc) (dv_move (T rfl f6)) <| lw_v (qi (i : Int)) (dv_move (T rfl f8)) <| lw_v (.pointer (some ⟨g16, o17 + i * 13, none⟩)) (dv_indexM (g := g16) (o := o17) (l := l) (c := cc) (i := i) (j := (i : Int)) (m := 13) us29 sz56 (T rfl rfl) (T rfl rfl) (by omega) (by first | omega | (simp; done) | (simp; omega))) <| lw_v (.pointer (some ⟨g16, o17 + (i * 13), none⟩)) (dv_fieldW (g := g16) (o := o17) (i := i * 13) fo56_0 (T rfl rfl)) <| lw_v (.pointer (some ⟨g16, o17 + (i * 13 + 8), none⟩)) (dv_fieldW (g := g16) (o := o17) (i := i * 13) fo35_2 (T rfl rfl)) <| lw_v (.pointer (some ⟨g16, o17 + (i * 13 + 9), none⟩)) (dv_fieldW (g := g16) (o := o17) (i := i * 13 + 8) fo33_1 (T rfl rfl)) <| lw_v (qu (W' i 9)) (dv_load agt23 (T rfl rfl) (NR.word (i := i) (j := 9) h18 (by first | omega | (simp; done) | (simp; omega)) (by decide))) <| lw_v (qi (((((((((kk + 1) + 1) + 1) + 1) + 1) + 1) + 1) + 1) + 1)) (dv_move (T rfl rfl)) <| lw_v (qu (((((((((kk + 1) + 1) + 1) + 1) + 1) + 1) + 1) + 1) + 1)) (dv_conv (a := ((((((((kk + 1) + 1) + 1) + 1) + 1) + 1) + 1) + 1) + 1) (z := ((((((((kk + 1) + 1) + 1) + 1) + 1) + 1) + 1) + 1) + 1) ui3 ui23 (T rfl rfl) (wn_u64 (by omega) (by omega))) <| lw_v (qd ((W' i 9) ≠ (((((((((kk + 1) + 1) + 1) + 1) + 1) + 1) + 1) + 1) + 1))) (dv_neq (a := W' i 9) (b := ((((((((kk + 1) + 1) + 1) + 1) + 1) + 1) + 1) + 1) + 1) (T rfl rfl) (T rfl rfl)) <| lw_nil ?_
                     by_cases hb28 : (W' i 9) ≠ (((((((((kk + 1) + 1) + 1) + 1) + 1) + 1) + 1) + 1) + 1)
                     · refine rk_ct (T rfl (qT hb28)) <| rk_seq <| rk_reg <| lw_v (qi (-1)) (dv_assign C) <| lw_nil <| rk_ret Tryz.func11 (v := qi (-1)) (res1 Tryz.results11 (rv_tmp rfl rfl)) ⟨_, rfl, ?_⟩
                       exfalso
                       have hw_ := (hmd i (by omega)).1
                       have w0_ := hw_ 0 (by decide); have w1_ := hw_ 1 (by decide); have w2_ := hw_ 2 (by decide); have w3_ := hw_ 3 (by decide); have w4_ := hw_ 4 (by decide); have w5_ := hw_ 5 (by decide); have w6_ := hw_ 6 (by decide); have w7_ := hw_ 7 (by decide); have w8_ := hw_ 8 (by decide); have w9_ := hw_ 9 (by decide); have w10_ := hw_ 10 (by decide); have w11_ := hw_ 11 (by decide)
                       omega
                     · refine rk_cf (T rfl (qF hb28)) <| rk_skip <| rk_seq <| rk_reg <| lw_v (qi (((((((((kk + 1) + 1) + 1) + 1) + 1) + 1) + 1) + 1) + 1)) (dv_move (T rfl rfl)) <| lw_v (qi ((((((((((kk + 1) + 1) + 1) + 1) + 1) + 1) + 1) + 1) + 1) + 1)) (dv_add (a := ((((((((kk + 1) + 1) + 1) + 1) + 1) + 1) + 1) + 1) + 1) (b := 1) (z := (((((((((kk + 1) + 1) + 1) + 1) + 1) + 1) + 1) + 1) + 1) + 1) (T rfl rfl) C (wr_i64 (by omega) (by omega))) <| lw_v (qi ((((((((((kk + 1) + 1) + 1) + 1) + 1) + 1) + 1) + 1) + 1) + 1)) (dv_assign (T rfl rfl)) <| lw_nil <| rk_seq <| rk_seq <| rk_reg ?_
                       refine lw_v (.slice (some ⟨g16, o17, none⟩) l cc) (dv_move (T rfl f6)) <| lw_v (qi (i : Int)) (dv_move (T rfl f8)) <| lw_v (.pointer (some ⟨g16, o17 + i * 13, none⟩)) (dv_indexM (g := g16) (o := o17) (l := l) (c := cc) (i := i) (j := (i : Int)) (m := 13) us29 sz56 (T rfl rfl) (T rfl rfl) (by omega) (by first | omega | (simp; done) | (simp; omega))) <| lw_v (.pointer (some ⟨g16, o17 + (i * 13), none⟩)) (dv_fieldW (g := g16) (o := o17) (i := i * 13) fo56_0 (T rfl rfl)) <| lw_v (.pointer (some ⟨g16, o17 + (i * 13 + 8), none⟩)) (dv_fieldW (g := g16) (o := o17) (i := i * 13) fo35_2 (T rfl rfl)) <| lw_v (.pointer (some ⟨g16, o17 + (i * 13 + 10), none⟩)) (dv_fieldW (g := g16) (o := o17) (i := i * 13 + 8) fo33_2 (T rfl rfl)) <| lw_v (qu (W' i 10)) (dv_load agt23 (T rfl rfl) (NR.word (i := i) (j := 10) h18 (by first | omega | (simp; done) | (simp; omega)) (by decide))) <| lw_v (qi ((((((((((kk + 1) + 1) + 1) + 1) + 1) + 1) + 1) + 1) + 1) + 1)) (dv_move (T rfl rfl)) <| lw_v (qu ((((((((((kk + 1) + 1) + 1) + 1) + 1) + 1) + 1) + 1) + 1) + 1)) (dv_conv (a := (((((((((kk + 1) + 1) + 1) + 1) + 1) + 1) + 1) + 1) + 1) + 1) (z := (((((((((kk + 1) + 1) + 1) + 1) + 1) + 1) + 1) + 1) + 1) + 1) ui3 ui23 (T rfl rfl) (wn_u64 (by omega) (by omega))) <| lw_v (qd ((W' i 10) ≠ ((((((((((kk + 1) + 1) + 1) + 1) + 1) + 1) + 1) + 1) + 1) + 1))) (dv_neq (a := W' i 10) (b := (((((((((kk + 1) + 1) + 1) + 1) + 1) + 1) + 1) + 1) + 1) + 1) (T rfl rfl) (T rfl rfl)) <| lw_nil ?_
                       by_cases hb29 : (W' i 10) ≠ ((((((((((kk + 1) + 1) + 1) + 1) + 1) + 1) + 1) + 1) + 1) + 1)
                       · refine rk_ct (T rfl (qT hb29)) <| rk_seq <| rk_reg <| lw_v (qi (-1)) (dv_assign C) <| lw_nil <| rk_ret Tryz.func11 (v := qi (-1)) (res1 Tryz.results11 (rv_tmp rfl rfl)) ⟨_, rfl, ?_⟩
                         exfalso
                         have hw_ := (hmd i (by omega)).1
                         have w0_ := hw_ 0 (by decide); have w1_ := hw_ 1 (by decide); have w2_ := hw_ 2 (by decide); have w3_ := hw_ 3 (by decide); have w4_ := hw_ 4 (by decide); have w5_ := hw_ 5 (by decide); have w6_ := hw_ 6 (by decide); have w7_ := hw_ 7 (by decide); have w8_ := hw_ 8 (by decide); have w9_ := hw_ 9 (by decide); have w10_ := hw_ 10 (by decide); have w11_ := hw_ 11 (by decide)
                         omega
                       · refine rk_cf (T rfl (qF hb29)) <| rk_skip <| rk_seq <| rk_reg <| lw_v (qi ((((((((((kk + 1) + 1) + 1) + 1) + 1) + 1) + 1) + 1) + 1) + 1)) (dv_move (T rfl rfl)) <| lw_v (qi (((((((((((kk + 1) + 1) + 1) + 1) + 1) + 1) + 1) + 1) + 1) + 1) + 1)) (dv_add (a := (((((((((kk + 1) + 1) + 1) + 1) + 1) + 1) + 1) + 1) + 1) + 1) (b := 1) (z := ((((((((((kk + 1) + 1) + 1) + 1) + 1) + 1) + 1) + 1) + 1) + 1) + 1) (T rfl rfl) C (wr_i64 (by omega) (by omega))) <| lw_v (qi (((((((((((kk + 1) + 1) + 1) + 1) + 1) + 1) + 1) + 1) + 1) + 1) + 1)) (dv_assign (T rfl rfl)) <| lw_nil <| rk_seq <| rk_seq <| rk_reg ?_
                         refine lw_v (.slice (some ⟨g16, o17, none⟩) l cc) (dv_move (T rfl f6)) <| lw_v (qi (i : Int)) (dv_move (T rfl f8)) <| lw_v (.pointer (some ⟨g16, o17 + i * 13, none⟩)) (dv_indexM (g := g16) (o := o17) (l := l) (c := cc) (i := i) (j := (i : Int)) (m := 13) us29 sz56 (T rfl rfl) (T rfl rfl) (by omega) (by first | omega | (simp; done) | (simp; omega))) <| lw_v (.pointer (some ⟨g16, o17 + (i * 13), none⟩)) (dv_fieldW (g := g16) (o := o17) (i := i * 13) fo56_0 (T rfl rfl)) <| lw_v (.pointer (some ⟨g16, o17 + (i * 13 + 8), none⟩)) (dv_fieldW (g := g16) (o := o17) (i := i * 13) fo35_2 (T rfl rfl)) <| lw_v (.pointer (some ⟨g16, o17 + (i * 13 + 11), none⟩)) (dv_fieldW (g := g16) (o := o17) (i := i * 13 + 8) fo33_3 (T rfl rfl)) <| lw_v (qu (W' i 11)) (dv_load agt23 (T rfl rfl) (NR.word (i := i) (j := 11) h18 (by first | omega | (simp; done) | (simp; omega)) (by decide))) <| lw_v (qi (((((((((((kk + 1) + 1) + 1) + 1) + 1) + 1) + 1) + 1) + 1) + 1) + 1)) (dv_move (T rfl rfl)) <| lw_v (qu (((((((((((kk + 1) + 1) + 1) + 1) + 1) + 1) + 1) + 1) + 1) + 1) + 1)) (dv_conv (a := ((((((((((kk + 1) + 1) + 1) + 1) + 1) + 1) + 1) + 1) + 1) + 1) + 1) (z := ((((((((((kk + 1) + 1) + 1) + 1) + 1) + 1) + 1) + 1) + 1) + 1) + 1) ui3 ui23 (T rfl rfl) (wn_u64 (by omega) (by omega))) <| lw_v (qd ((W' i 11) ≠ (((((((((((kk + 1) + 1) + 1) + 1) + 1) + 1) + 1) + 1) + 1) + 1) + 1))) (dv_neq (a := W' i 11) (b := ((((((((((kk + 1) + 1) + 1) + 1) + 1) + 1) + 1) + 1) + 1) + 1) + 1) (T rfl rfl) (T rfl rfl)) <| lw_nil ?_
                         by_cases hb30 : (W' i 11) ≠ (((((((((((kk + 1) + 1) + 1) + 1) + 1) + 1) + 1) + 1) + 1) + 1) + 1)
                         · refine rk_ct (T rfl (qT hb30)) <| rk_seq <| rk_reg <| lw_v (qi (-1)) (dv_assign C) <| lw_nil <| rk_ret Tryz.func11 (v := qi (-1)) (res1 Tryz.results11 (rv_tmp rfl rfl)) ⟨_, rfl, ?_⟩
                           exfalso
                           have hw_ := (hmd i (by omega)).1
                           have w0_ := hw_ 0 (by decide); have w1_ := hw_ 1 (by decide); have w2_ := hw_ 2 (by decide); have w3_ := hw_ 3 (by decide); have w4_ := hw_ 4 (by decide); have w5_ := hw_ 5 (by decide); have w6_ := hw_ 6 (by decide); have w7_ := hw_ 7 (by decide); have w8_ := hw_ 8 (by decide); have w9_ := hw_ 9 (by decide); have w10_ := hw_ 10 (by decide); have w11_ := hw_ 11 (by decide)
                           omega
                         · refine rk_cf (T rfl (qF hb30)) <| rk_skip <| rk_seq <| rk_reg <| lw_v (qi (((((((((((kk + 1) + 1) + 1) + 1) + 1) + 1) + 1) + 1) + 1) + 1) + 1)) (dv_move (T rfl rfl)) <| lw_v (qi ((((((((((((kk + 1) + 1) + 1) + 1) + 1) + 1) + 1) + 1) + 1) + 1) + 1) + 1)) (dv_add (a := ((((((((((kk + 1) + 1) + 1) + 1) + 1) + 1) + 1) + 1) + 1) + 1) + 1) (b := 1) (z := (((((((((((kk + 1) + 1) + 1) + 1) + 1) + 1) + 1) + 1) + 1) + 1) + 1) + 1) (T rfl rfl) C (wr_i64 (by omega) (by omega))) <| lw_v (qi ((((((((((((kk + 1) + 1) + 1) + 1) + 1) + 1) + 1) + 1) + 1) + 1) + 1) + 1)) (dv_assign (T rfl rfl)) <| qN <| lw_v (.slice (some ⟨g16, o17, none⟩) l cc) (dv_move (T rfl f6)) ?_
                           refine lw_v (qi (i : Int)) (dv_move (T rfl f8)) <| lw_v (.pointer (some ⟨g16, o17 + i * 13, none⟩)) (dv_indexM (g := g16) (o := o17) (l := l) (c := cc) (i := i) (j := (i : Int)) (m := 13) us29 sz56 (T rfl rfl) (T rfl rfl) (by omega) (by first | omega | (simp; done) | (simp; omega))) <| lw_v (.pointer (some ⟨g16, o17 + (i * 13 + 12), none⟩)) (dv_fieldW (g := g16) (o := o17) (i := i * 13) fo56_1 (T rfl rfl)) <| lw_v (.slice As11 ((E' i).length) cs12) (dv_load agt41 (T rfl rfl) (NR.slA (i := i) h18 (by first | omega | (simp; done) | (simp; omega)) hAs13 hcs14)) <| lw_v (qi ((((((((((((kk + 1) + 1) + 1) + 1) + 1) + 1) + 1) + 1) + 1) + 1) + 1) + 1)) (dv_move (T rfl rfl)) <| lw_e (oe_callf (vs := [.slice As11 ((E' i).length) cs12, qi ((((((((((((kk + 1) + 1) + 1) + 1) + 1) + 1) + 1) + 1) + 1) + 1) + 1) + 1)]) co32 (ar2 (T rfl rfl) (T rfl rfl)) (heldInt64S_ok (n := (E' i).length) (c := cs12) (xs := E' i) (k := (((((((((((kk + 1) + 1) + 1) + 1) + 1) + 1) + 1) + 1) + 1) + 1) + 1) + 1) (NR.rdA (i := i) h18 (by first | omega | (simp; done) | (simp; omega)) hAs13) rfl (by first | omega | (simp; done) | (simp; omega)) (mkd_held hmd hlen (i := i) (by omega) (by omega)) (by omega)) ?_)
                           rintro _ w31 ⟨rfl, e32⟩
                           have E33 := below_ext E9 E9.size e32
                           refine lw_v (qi (((((((((((((kk + 1) + 1) + 1) + 1) + 1) + 1) + 1) + 1) + 1) + 1) + 1) + 1) + ((E' i).length : Int))) (dv_assign (T rfl rfl)) <| qN <| lw_v (qi (((((((((((((kk + 1) + 1) + 1) + 1) + 1) + 1) + 1) + 1) + 1) + 1) + 1) + 1) + ((E' i).length : Int))) (dv_move (T rfl rfl)) <| lw_v (qd ((((((((((((((kk + 1) + 1) + 1) + 1) + 1) + 1) + 1) + 1) + 1) + 1) + 1) + 1) + ((E' i).length : Int)) < 0)) (dv_lss (a := ((((((((((((kk + 1) + 1) + 1) + 1) + 1) + 1) + 1) + 1) + 1) + 1) + 1) + 1) + ((E' i).length : Int)) (b := 0) (T rfl rfl) C) <| lw_nil ?_
                           by_cases hb34 : (((((((((((((kk + 1) + 1) + 1) + 1) + 1) + 1) + 1) + 1) + 1) + 1) + 1) + 1) + ((E' i).length : Int)) < 0
                           · refine rk_ct (T rfl (qT hb34)) <| rk_seq <| rk_reg <| lw_v (qi (-1)) (dv_assign C) <| lw_nil <| rk_ret Tryz.func11 (v := qi (-1)) (res1 Tryz.results11 (rv_tmp rfl rfl)) ⟨_, rfl, ?_⟩
                             exfalso
                             have hw_ := (hmd i (by omega)).1
                             have w0_ := hw_ 0 (by decide); have w1_ := hw_ 1 (by decide); have w2_ := hw_ 2 (by decide); have w3_ := hw_ 3 (by decide); have w4_ := hw_ 4 (by decide); have w5_ := hw_ 5 (by decide); have w6_ := hw_ 6 (by decide); have w7_ := hw_ 7 (by decide); have w8_ := hw_ 8 (by decide); have w9_ := hw_ 9 (by decide); have w10_ := hw_ 10 (by decide); have w11_ := hw_ 11 (by decide)
                             omega
                           · refine rk_cf (T rfl (qF hb34)) <| rk_skip <| rk_inBlock <| rk_reg <| lw_v (qi (i : Int)) (dv_move (T rfl f8)) <| lw_v (qi ((i : Int) + 1)) (dv_add (a := (i : Int)) (b := 1) (z := (i : Int) + 1) (T rfl rfl) C (wr_i64 (by omega) (by omega))) <| lw_v (qi ((i : Int) + 1)) (dv_assign (T rfl rfl)) <| lw_nil ?_
                             exact ih3 (l - (i + 1)) _ _ (by rw [hd10]; omega) ⟨(i + 1), (((((((((((((kk + 1) + 1) + 1) + 1) + 1) + 1) + 1) + 1) + 1) + 1) + 1) + 1) + ((E' i).length : Int)), rfl, f6, (rfl), (vi (by omega)), E33, (by omega), (by rw [kAt_s]; omega)⟩
 · refine rk_cf (T rfl (qF hb15)) <| rk_exit rfl <| rk_seq <| rk_reg <| lw_v (qi kk) (dv_move (T rfl f7)) <| lw_v (qi kk) (dv_assign (T rfl rfl)) <| lw_nil <| rk_ret Tryz.func11 (v := qi kk) (res1 Tryz.results11 (rv_tmp rfl rfl)) ⟨_, rfl, ?_⟩
   obtain rfl : i = l := by omega
   exact ⟨vi hkk, E9⟩
end Go.Proofs.YtmbpomcbdopgnaaGreat.W
set_option linter.unusedVariables false
set_option linter.unusedSimpArgs false
namespace Go.Proofs.YtmbpomcbdopgnaaGreat.W
open Go Go.RowKit Go.Proofs.YtmbpomcbdopgnaaGreat.Fw
attribute [local irreducible] RunK LW AW DV OE Ct
theorem co50 : callOk Tryz.prog 50 = true := by kernel_rfl
theorem pl56 : placesB Tryz.prog 56 = some [(0, 12), (12, 1)] := by kernel_rfl
theorem zc56 : zcB Tryz.prog 56 = some [.int .u64 0, .int .u64 0, .int .u64 0, .int .u64 0, .int .u64 0, .int .u64 0, .int .u64 0, .int .u64 0, .int .u64 0, .int .u64 0, .int .u64 0, .int .u64 0, .slice none 0 0] := by kernel_rfl
theorem cloneI_ok {w : World} {A : Option Addr} {l c : Nat} {xs : List Int} (hx : RdI w .i64 A xs) (hl : xs.length = l) (hbd : l ≤ 1048576) (hp : 0 < l) : Ct Tryz.prog 50 [.slice A l c] w fun v w1 => ∃ A2 c2, v = .slice A2 l c2 ∧ Ext w w1 ∧ Ow w1 w.heap.size 2 .i64 A2 c2 xs := by
 obtain ⟨g, o, rfl⟩ := hx.at (by omega)
 obtain ⟨i0, hi0, hi⟩ : ∃ i0, Tryz.prog.info? 2 = some i0 ∧ (i0.zero, i0.size, i0.bytes) = (some (.int .i64 0), 1, 8) := by
  have h := in2
  cases hi : Tryz.prog.info? 2 with
  | none => rw [hi] at h; cases h
  | some i0 => rw [hi] at h; exact ⟨i0, rfl, by simpa using h⟩
 simp only [Prod.mk.injEq] at hi
 unfold Ct
 refine Calls.mono (Tryz.slices_Clone_f50 i0 _ 1 8 hi0 hi.1 hi.2.1 hi.2.2 rfl (by decide) (fun w => Fw.run_sizeOf sz2) g o l c (xs.map (Value.int .i64)) w (by simp [hl]) (by simp only [maxLen]; omega) (by omega) (fun j u hj => ?_) (ints_oneCell .i64 xs)) fun e w' ⟨v', he, ho, hne, hb⟩ => ?_
 · rw [List.getElem?_map] at hj
   cases hxj : xs[j]? with
   | none => rw [hxj] at hj; cases hj
   | some x =>
    rw [hxj] at hj
    have hjl : j < xs.length := (List.getElem?_eq_some_iff.1 hxj).1
    have h1 := hx.cell hjl
    rw [h1, ← hj]
    simp [List.getD_eq_getElem?_getD, hxj]
 · subst hl
   obtain ⟨A', c', rfl⟩ := own_slice ho
   exact ⟨_, he, A', c', rfl, hb, ho, hb.size⟩
set_option maxHeartbeats 1000000 in
theorem copyEvents_ok {w : World} {A : Option Addr} {l c : Nat} {Q : Nat → Ev} {SL : SlF} {lo hi : Nat} (hx : NR w lo hi A l (fun i_ => evW (Q i_)) (fun i_ => (Q i_).es) SL) (hxb : l ≤ 1048576) (hxf : evF l Q) (hne : ∀ i, i < l → 0 < (Q i).es.length) (hl2 : l ≤ 200) : Ct Tryz.prog 25 [.slice A l c] w fun v w1 => ∃ A2 c2 S2, v = .slice A2 l c2 ∧ Ext w w1 ∧ (∃ g_, A2 = some ⟨g_, 0, none⟩) ∧ NG w1 w.heap.size w1.heap.size 56 2 A2 l c2 (fun i_ => evW (Q i_)) (fun i_ => (Q i_).es) S2 := by
 refine ct_run (n := 24) Tryz.func25 rfl Tryz.ntmps25 rfl ?_
 have E0 : Below w.heap.size w w := Below.refl _ _
 have hhi := hx.lh
 refine rk_seq <| rk_reg <| lw_v (.slice none 0 0) (dv_assign C) <| qN <| lw_e (oe_buildSlice0 us29 sz56 ?_)
 intro b1 w2 n3
 have N5 : w.heap.size ≤ b1 := n3.eq ▸ E0.size
 have := Below.fresh n3.ext
 have E6 := below_ext E0 E0.size n3.ext
 have hN4 := NG.made (T' := 2) (W := fun i_ => evW (Q i_)) (E := fun i_ => (Q i_).es) (SL := fun _ => (none, 0)) n3
 refine lw_v (.slice (some ⟨b1, 0, none⟩) 0 0) (dv_assign (T rfl rfl)) <| lw_nil <| rk_seq <| rk_seq <| rk_reg <| lw_v (.slice A l c) (dv_move (T rfl rfl)) <| lw_v (qi (l : Int)) (dv_len (ad := A) (l := l) (c := c) us29 (T rfl rfl)) <| lw_v (qi 0) (dv_move C) <| lw_nil <| rk_block <| rk_loop (fun dm_ fr wl => ∃ (i : Nat) (S : SlF) (A2 : Option Addr) (c2 : Nat), dm_ = l - i ∧ fr 2 = .slice none 0 0 ∧ fr 3 = .slice A2 i c2 ∧ fr 7 = .slice A l c ∧ fr 8 = qi (l : Int) ∧ fr 9 = qi (i : Int) ∧ Below w.heap.size w wl ∧ NG wl b1 wl.heap.size 56 2 A2 i c2 (fun i_ => evW (Q i_)) (fun i_ => (Q i_).es) S ∧ (i ≤ l) ∧ (i = 0 → ∃ g_, A2 = some ⟨g_, 0, none⟩)) (l - 0) ⟨0, (fun _ => (none, 0)), (some ⟨b1, 0, none⟩), 0, rfl, rfl, rfl, rfl, rfl, (vi (by omega)), E6, hN4, (Nat.zero_le _), (fun _ => ⟨_, rfl⟩)⟩ ?_
 intro d11 fr10 w7 hI8 ih9
 obtain ⟨i, S, A2, c2, hd19, f12, f13, f14, f15, f16, E17, h18, hi_, hg_⟩ := hI8
 obtain ⟨As20, hAs22⟩ : ∃ q_ : Option Addr, q_ = (SL i).1 := ⟨_, rfl⟩
 obtain ⟨cs21, hcs23⟩ : ∃ q_ : Nat, q_ = (SL i).2 := ⟨_, rfl⟩
 have hen : i < l → (Q i).es.length ≤ 1048576 ∧ 0 < (Q i).es.length := fun h_ => ⟨evF.n hxf h_, hne i h_⟩
 refine rk_seq <| rk_reg <| lw_v (qd ((i : Int) < (l : Int))) (dv_lss (a := (i : Int)) (b := (l : Int)) (T rfl f16) (T rfl f15)) <| lw_nil <| rk_seq ?_
 by_cases hb24 : ((i : Int)) < ((l : Int))
 · refine rk_ct (T rfl (qT hb24)) <| rk_skip <| rk_seq <| rk_block <| rk_seq <| rk_reg ?_
   have h27 := (hx.ext E17)
   obtain ⟨g25, o26, rfl⟩ := NR.at h27 (by first | omega | (simp; done) | (simp; omega))
   refine lw_v (.pointer (some ⟨g25, o26 + i * 13, none⟩)) (dv_indexM (g := g25) (o := o26) (l := l) (c := c) (i := i) (j := (i : Int)) (m := 13) us29 sz56 (T rfl f14) (T rfl f16) (by omega) (by first | omega | (simp; done) | (simp; omega))) <| lw_v (.agg (qB ((Q i).x) ((Q i).y) ((Q i).u) (.slice As20 ((Q i).es.length) cs21))) (dv_loadsR (l := (qM ((Q i).x) ((Q i).y) ((Q i).u) (.slice As20 ((Q i).es.length) cs21))) agt56 sz56 (T rfl rfl) rfl (NR.evA (i := i) h27 (by first | omega | (simp; done) | (simp; omega)) hAs22 hcs23)) <| lw_e (oe_alloc ze56 ?_)
   intro b28 w29 n30
   have N31 : w.heap.size ≤ b28 := n30.eq ▸ E17.size
   have := n30.eq; have := n30.size
   have := Below.fresh n30.ext
   have E32 := below_ext E17 E17.size n30.ext
   refine lw_e (oe_store (v := .agg (qB ((Q i).x) ((Q i).y) ((Q i).u) (.slice As20 ((Q i).es.length) cs21))) (vs := (qM ((Q i).x) ((Q i).y) ((Q i).u) (.slice As20 ((Q i).es.length) cs21))) (l := (qM ((Q i).x) ((Q i).y) ((Q i).u) (.slice As20 ((Q i).es.length) cs21))) (T rfl rfl) (T rfl rfl) sz56 rfl rfl rfl n30.blk rfl ?_)
   intro w33 s34 H35
   have := s34.size
   have E36 := below_st E32 N31 s34
   refine lw_nil <| rk_any (fun w => w.heap[b28]? = some (.cells (qB ((Q i).x) ((Q i).y) ((Q i).u) (.slice As20 ((Q i).es.length) cs21)) 56)) [9] mo ?_
   intro w37 d38
   have := Below.fresh d38.ext
   have E39 := below_ext E36 E36.size d38.ext
   have H40 := (d38.ext.blk H35)
   refine aw_pure 0 (.slice A2 i c2) rfl (by kernel_rfl) .none H40 (fun _ => dv_move (T rfl f13)) <| aw_pure 1 (.pointer (some ⟨b28, 0, none⟩)) rfl (by kernel_rfl) .none H40 (fun _ => dv_fieldAddr (a := ⟨b28, 0, none⟩) (a' := ⟨b28, 0, none⟩) fo56_0 (T rfl rfl) rfl) <| aw_load 2 (.agg (qA ((Q i).x) ((Q i).y) ((Q i).u))) rfl (by kernel_rfl) .none H40 (fun _ s => dv_loads (l := (qL ((Q i).x) ((Q i).y) ((Q i).u))) agt35 sz35 (T rfl rfl) s rfl) <| aw_pure 3 (.pointer (some ⟨b28, 12, none⟩)) rfl (by kernel_rfl) .none H40 (fun _ => dv_fieldAddr (a := ⟨b28, 0, none⟩) (a' := ⟨b28, 12, none⟩) fo56_1 (T rfl rfl) rfl) <| aw_load 4 (.slice As20 ((Q i).es.length) cs21) rfl (by kernel_rfl) .none H40 (fun _ s => dv_load1 (b := b28) (o := 12) agt41 (T rfl rfl) s rfl) ?_
   have h41 := (((h27.ext n30.ext).st s34 (by omega)).ext d38.ext)
   refine aw_one 5 rfl (by kernel_rfl) .none (oe_callf (vs := [.slice As20 ((Q i).es.length) cs21]) co50 (ar1 (T rfl rfl)) (cloneI_ok (c := cs21) (NR.rdA (i := i) h41 (by first | omega | (simp; done) | (simp; omega)) hAs22) (by first | rfl | omega) (by first | omega | (simp; done) | (simp; omega)) (by first | omega | (simp; done) | (simp; omega))) ?_)
   rintro _ w45 ⟨Ak42, ck43, rfl, e46, hOk44⟩
   have := Below.fresh e46
   have E47 := below_ext E39 E39.size e46
   have H48 := (e46.blk H40)
   refine ⟨.inr H48, ?_⟩
   refine aw_pure 6 (.agg (qB ((Q i).x) ((Q i).y) ((Q i).u) (.slice Ak42 ((Q i).es.length) ck43))) rfl (by kernel_rfl) .none H48 (fun _ => dv_build (pv := [(0, .agg (qA ((Q i).x) ((Q i).y) ((Q i).u))), (1, .slice Ak42 ((Q i).es.length) ck43)]) (l := (qM ((Q i).x) ((Q i).y) ((Q i).u) (.slice Ak42 ((Q i).es.length) ck43))) zc56 pl56 ⟨rfl, (T rfl rfl), ⟨rfl, (T rfl rfl), trivial⟩⟩ rfl) <| aw_one 7 rfl (by kernel_rfl) .none (oe_buildSlice (pv := [(0, .agg (qB ((Q i).x) ((Q i).y) ((Q i).u) (.slice Ak42 ((Q i).es.length) ck43)))]) (init := [qu 0, qu 0, qu 0, qu 0, qu 0, qu 0, qu 0, qu 0, qu 0, qu 0, qu 0, qu 0, .slice none 0 0]) (l := (qM ((Q i).x) ((Q i).y) ((Q i).u) (.slice Ak42 ((Q i).es.length) ck43))) us29 sz56 rfl rfl zc56 (by kernel_rfl) ⟨rfl, (T rfl rfl), trivial⟩ rfl ?_)
   intro b49 w50 n51
   have N52 : w.heap.size ≤ b49 := n51.eq ▸ E47.size
   have : b28 < b49 := n51.eq ▸ lt_of_blk H48
   have := n51.eq; have := n51.size
   have := Below.fresh n51.ext
   have E53 := below_ext E47 E47.size n51.ext
   have H54 := (n51.ext.blk H48)
   refine ⟨.inr H54, ?_⟩
   have h55 := (((((h18.ext n30.ext).st s34 (by omega)).ext d38.ext).ext e46).ext n51.ext)
   have h56 := (hOk44.ext n51.ext)
   refine aw_one 8 rfl (by kernel_rfl) .none (oe_appendN (lo := b1) (hi := w7.heap.size) (l := i) (s := w37.heap.size) (ws := evW (Q i)) (es := (Q i).es) (A' := Ak42) (c' := ck43) (vs := (qM ((Q i).x) ((Q i).y) ((Q i).u) (.slice Ak42 ((Q i).es.length) ck43))) us29 in56 rfl (T rfl rfl) (T rfl rfl) h55 (by decide) n51.blk rfl h56 (by omega) (by omega) (by omega) (fun _ _ => rfl) rfl ?_)
   intro Ad57 c58 w59 hN60 x61
   have E62 := below_mid E53 N5 E53.size x61
   have := x61.size
   have H63 := ((x61.block _ (lt_of_blk H54) (by omega)).trans H54)
   refine ⟨.inr H63, ?_⟩
   refine aw_last 9 (.slice Ad57 (i + 1) c58) rfl (by kernel_rfl) .none (fun _ => dv_assign (T rfl rfl)) <| aw_done (by kernel_rfl) <| rk_inBlock <| rk_reg <| lw_v (qi ((i : Int) + 1)) (dv_add (a := (i : Int)) (b := 1) (z := (i : Int) + 1) (T rfl f16) C (wr_i64 (by omega) (by omega))) <| lw_v (qi ((i : Int) + 1)) (dv_move (T rfl rfl)) <| lw_nil ?_
   exact ih9 (l - (i + 1)) _ _ (by rw [hd19]; omega) ⟨(i + 1), (updA S i (Ak42, ck43)), Ad57, c58, rfl, f12, rfl, f14, f15, (vi (by omega)), E62, hN60, (by omega), (fun h_ => absurd h_ (Nat.succ_ne_zero _))⟩
 · refine rk_cf (T rfl (qF hb24)) <| rk_exit rfl <| rk_seq <| rk_reg <| lw_v (.slice A2 i c2) (dv_move (T rfl f13)) <| lw_v (.slice A2 i c2) (dv_assign (T rfl rfl)) <| lw_nil <| rk_ret Tryz.func25 (v := .slice A2 i c2) (res1 Tryz.results25 (rv_tmp rfl rfl)) ⟨_, rfl, ?_⟩
   obtain rfl : i = l := by omega
   exact ⟨_, _, _, rfl, E17, (by by_cases h0_ : i = 0 <;> first | exact hg_ h0_ | exact h18.at (by omega)), (h18.lo_le N5).mono h18.lh.2 (Nat.le_refl _)⟩
set_option maxHeartbeats 1000000 in
theorem l7Copy_ok {w : World} {A : Option Addr} {l c : Nat} {Q : Nat → Ev} {SL : SlF} {lo hi : Nat} (hx : NR w lo hi A l (fun i_ => evW (Q i_)) (fun i_ => (Q i_).es) SL) (hxb : l ≤ 1048576) (hxf : evF l Q) (hne : ∀ i, i < l → 0 < (Q i).es.length) (hl2 : l ≤ 200) : Ct Tryz.prog 16 [.slice A l c] w fun v w1 => ∃ A2 c2 S2, v = .slice A2 l c2 ∧ Ext w w1 ∧ (∃ g_, A2 = some ⟨g_, 0, none⟩) ∧ NG w1 w.heap.size w1.heap.size 56 2 A2 l c2 (fun i_ => evW (Q i_)) (fun i_ => (Q i_).es) S2 := by
 refine ct_run (n := 29) Tryz.func16 rfl Tryz.ntmps16 rfl ?_
 have E0 : Below w.heap.size w w := Below.refl _ _
 have hhi := hx.lh
 refine rk_seq <| rk_reg <| lw_v (.slice none 0 0) (dv_assign C) <| qN <| lw_e (oe_buildSlice0 us29 sz56 ?_)
 intro b1 w2 n3
 have N5 : w.heap.size ≤ b1 := n3.eq ▸ E0.size
 have := Below.fresh n3.ext
 have E6 := below_ext E0 E0.size n3.ext
 have hN4 := NG.made (T' := 2) (W := fun i_ => evW (Q i_)) (E := fun i_ => (Q i_).es) (SL := fun _ => (none, 0)) n3
 refine lw_v (.slice (some ⟨b1, 0, none⟩) 0 0) (dv_assign (T rfl rfl)) <| lw_nil <| rk_seq <| rk_seq <| rk_reg <| lw_v (qi 0) (dv_assign C) <| lw_nil <| rk_block <| rk_loop (fun dm_ fr wl => ∃ (i : Nat) (S : SlF) (A2 : Option Addr) (c2 : Nat), dm_ = l - i ∧ fr 0 = .slice A l c ∧ fr 2 = .slice none 0 0 ∧ fr 3 = .slice A2 i c2 ∧ fr 4 = qi (i : Int) ∧ Below w.heap.size w wl ∧ NG wl b1 wl.heap.size 56 2 A2 i c2 (fun i_ => evW (Q i_)) (fun i_ => (Q i_).es) S ∧ (i ≤ l) ∧ (i = 0 → ∃ g_, A2 = some ⟨g_, 0, none⟩)) (l - 0) ⟨0, (fun _ => (none, 0)), (some ⟨b1, 0, none⟩), 0, rfl, rfl, rfl, rfl, (vi (by omega)), E6, hN4, (Nat.zero_le _), (fun _ => ⟨_, rfl⟩)⟩ ?_
 intro d11 fr10 w7 hI8 ih9
 obtain ⟨i, S, A2, c2, hd18, f12, f13, f14, f15, E16, h17, hi_, hg_⟩ := hI8
 obtain ⟨As19, hAs21⟩ : ∃ q_ : Option Addr, q_ = (SL i).1 := ⟨_, rfl⟩
 obtain ⟨cs20, hcs22⟩ : ∃ q_ : Nat, q_ = (SL i).2 := ⟨_, rfl⟩
 have hen : i < l → (Q i).es.length ≤ 1048576 ∧ 0 < (Q i).es.length := fun h_ => ⟨evF.n hxf h_, hne i h_⟩
 refine rk_seq <| rk_seq <| rk_reg <| lw_v (qi (i : Int)) (dv_move (T rfl f15)) <| lw_v (.slice A l c) (dv_move (T rfl f12)) <| lw_v (qi (l : Int)) (dv_len (ad := A) (l := l) (c := c) us29 (T rfl rfl)) <| lw_v (qd ((i : Int) < (l : Int))) (dv_lss (a := (i : Int)) (b := (l : Int)) (T rfl rfl) (T rfl rfl)) <| lw_nil ?_
 by_cases hb23 : ((i : Int)) < ((l : Int))
 · refine rk_ct (T rfl (qT hb23)) <| rk_skip <| rk_seq <| rk_block <| rk_any (fun w => NR w lo hi A l (fun i_ => evW (Q i_)) (fun i_ => (Q i_).es) SL) [16] mo ?_
   intro w24 d25
   have := Below.fresh d25.ext
   have E26 := below_ext E16 E16.size d25.ext
   have h27 := ((hx.ext E16).ext d25.ext)
   refine aw_pure 0 (.slice A2 i c2) rfl (by kernel_rfl) .none h27 (fun _ => dv_move (T rfl f14)) <| aw_pure 1 (.slice A l c) rfl (by kernel_rfl) .none h27 (fun _ => dv_move (T rfl f12)) <| aw_pure 2 (qi (i : Int)) rfl (by kernel_rfl) .none h27 (fun _ => dv_move (T rfl f15)) ?_
   obtain ⟨g28, o29, rfl⟩ := NR.at h27 (by first | omega | (simp; done) | (simp; omega))
   refine aw_pure 3 (.pointer (some ⟨g28, o29 + i * 13, none⟩)) rfl (by kernel_rfl) .none h27 (fun _ => dv_indexM (g := g28) (o := o29) (l := l) (c := c) (i := i) (j := (i : Int)) (m := 13) us29 sz56 (T rfl rfl) (T rfl rfl) (by omega) (by first | omega | (simp; done) | (simp; omega))) <| aw_pure 4 (.pointer (some ⟨g28, o29 + (i * 13), none⟩)) rfl (by kernel_rfl) .none h27 (fun _ => dv_fieldW (g := g28) (o := o29) (i := i * 13) fo56_0 (T rfl rfl)) <| aw_load 5 (.agg (qA ((Q i).x) ((Q i).y) ((Q i).u))) rfl (by kernel_rfl) .none h27 (fun _ s => dv_loadsR (l := (qL ((Q i).x) ((Q i).y) ((Q i).u))) agt35 sz35 (T rfl rfl) rfl (NR.pt (i := i) s (by first | omega | (simp; done) | (simp; omega)))) <| aw_pure 7 (.slice (some ⟨g28, o29, none⟩) l c) rfl (by kernel_rfl) .none h27 (fun _ => dv_move (T rfl f12)) <| aw_pure 8 (qi (i : Int)) rfl (by kernel_rfl) .none h27 (fun _ => dv_move (T rfl f15)) <| aw_pure 9 (.pointer (some ⟨g28, o29 + i * 13, none⟩)) rfl (by kernel_rfl) .none h27 (fun _ => dv_indexM (g := g28) (o := o29) (l := l) (c := c) (i := i) (j := (i : Int)) (m := 13) us29 sz56 (T rfl rfl) (T rfl rfl) (by omega) (by first | omega | (simp; done) | (simp; omega))) <| aw_pure 10 (.pointer (some ⟨g28, o29 + (i * 13 + 12), none⟩)) rfl (by kernel_rfl) .none h27 (fun _ => dv_fieldW (g := g28) (o := o29) (i := i * 13) fo56_1 (T rfl rfl)) <| aw_load 11 (.slice As19 ((Q i).es.length) cs20) rfl (by kernel_rfl) .none h27 (fun _ s => dv_load agt41 (T rfl rfl) (NR.slA (i := i) s (by first | omega | (simp; done) | (simp; omega)) hAs21 hcs22)) <| aw_one 6 rfl (by kernel_rfl) .none (oe_buildSlice0 us41 sz2 ?_)
   intro b30 w31 n32
   have N33 : w.heap.size ≤ b30 := n32.eq ▸ E26.size
   have := n32.eq; have := n32.size
   have := Below.fresh n32.ext
   have E34 := below_ext E26 E26.size n32.ext
   have hO35 := Ow.made (T := 2) (k := .i64) (z := .int .i64 0) (c := 0) n32 (by decide)
   have h36 := (h27.ext n32.ext)
   refine ⟨.inr h36, ?_⟩
   obtain ⟨g37, o38, rfl⟩ := RdI.at (NR.rdA (i := i) h36 (by first | omega | (simp; done) | (simp; omega)) hAs21) (by first | omega | (simp; done) | (simp; omega))
   refine aw_one 12 rfl (by kernel_rfl) .none (oe_appendR (base := b30) (L := ([] : List Int)) (M := (Q i).es) (m := (Q i).es.length) us41 in2 (T rfl rfl) (T rfl rfl) hO35 (NR.rdA (i := i) h36 (by first | omega | (simp; done) | (simp; omega)) hAs21) rfl (by first | omega | (simp; done) | (simp; omega)) (by first | omega | (simp; done) | (simp; omega)) ?_)
   intro Ad39 c40 w41 hO42 x43 bt44
   have E45 := below_bl E34 N33 x43
   have h46 := (h36.bl x43 (by omega))
   refine ⟨.inr h46, ?_⟩
   refine aw_pure 13 (.agg #[qu (wv3 ((Q i).x)), qu (wv2 ((Q i).x)), qu (wv1 ((Q i).x)), qu (wv0 ((Q i).x)), qu (wv3 ((Q i).y)), qu (wv2 ((Q i).y)), qu (wv1 ((Q i).y)), qu (wv0 ((Q i).y)), qu (wv3 ((Q i).u)), qu (wv2 ((Q i).u)), qu (wv1 ((Q i).u)), qu (wv0 ((Q i).u)), .slice Ad39 ((([] : List Int) ++ (Q i).es).length) c40]) rfl (by kernel_rfl) .none h46 (fun _ => dv_build (pv := [(0, .agg (qA ((Q i).x) ((Q i).y) ((Q i).u))), (1, .slice Ad39 ((([] : List Int) ++ (Q i).es).length) c40)]) (l := [qu (wv3 ((Q i).x)), qu (wv2 ((Q i).x)), qu (wv1 ((Q i).x)), qu (wv0 ((Q i).x)), qu (wv3 ((Q i).y)), qu (wv2 ((Q i).y)), qu (wv1 ((Q i).y)), qu (wv0 ((Q i).y)), qu (wv3 ((Q i).u)), qu (wv2 ((Q i).u)), qu (wv1 ((Q i).u)), qu (wv0 ((Q i).u)), .slice Ad39 ((([] : List Int) ++ (Q i).es).length) c40]) zc56 pl56 ⟨rfl, (T rfl rfl), ⟨rfl, (T rfl rfl), trivial⟩⟩ rfl) <| aw_one 14 rfl (by kernel_rfl) .none (oe_buildSlice (pv := [(0, .agg #[qu (wv3 ((Q i).x)), qu (wv2 ((Q i).x)), qu (wv1 ((Q i).x)), qu (wv0 ((Q i).x)), qu (wv3 ((Q i).y)), qu (wv2 ((Q i).y)), qu (wv1 ((Q i).y)), qu (wv0 ((Q i).y)), qu (wv3 ((Q i).u)), qu (wv2 ((Q i).u)), qu (wv1 ((Q i).u)), qu (wv0 ((Q i).u)), .slice Ad39 ((([] : List Int) ++ (Q i).es).length) c40])]) (init := [qu 0, qu 0, qu 0, qu 0, qu 0, qu 0, qu 0, qu 0, qu 0, qu 0, qu 0, qu 0, .slice none 0 0]) (l := [qu (wv3 ((Q i).x)), qu (wv2 ((Q i).x)), qu (wv1 ((Q i).x)), qu (wv0 ((Q i).x)), qu (wv3 ((Q i).y)), qu (wv2 ((Q i).y)), qu (wv1 ((Q i).y)), qu (wv0 ((Q i).y)), qu (wv3 ((Q i).u)), qu (wv2 ((Q i).u)), qu (wv1 ((Q i).u)), qu (wv0 ((Q i).u)), .slice Ad39 ((([] : List Int) ++ (Q i).es).length) c40]) us29 sz56 rfl rfl zc56 (by kernel_rfl) ⟨rfl, (T rfl rfl), trivial⟩ rfl ?_)
   intro b47 w48 n49
   have N50 : w.heap.size ≤ b47 := n49.eq ▸ E45.size
   have := n49.eq; have := n49.size
   have := Below.fresh n49.ext
   have E51 := below_ext E45 E45.size n49.ext
   have h52 := (h46.ext n49.ext)
   refine ⟨.inr h52, ?_⟩
   have h53 := ((((h17.ext d25.ext).ext n32.ext).bl x43 (by omega)).ext n49.ext)
   have h54 := (hO42.ext n49.ext)
   refine aw_one 15 rfl (by kernel_rfl) .none (oe_appendN (lo := b1) (hi := w7.heap.size) (l := i) (s := b30) (ws := evW (Q i)) (es := (([] : List Int) ++ (Q i).es)) (A' := Ad39) (c' := c40) (vs := [qu (wv3 ((Q i).x)), qu (wv2 ((Q i).x)), qu (wv1 ((Q i).x)), qu (wv0 ((Q i).x)), qu (wv3 ((Q i).y)), qu (wv2 ((Q i).y)), qu (wv1 ((Q i).y)), qu (wv0 ((Q i).y)), qu (wv3 ((Q i).u)), qu (wv2 ((Q i).u)), qu (wv1 ((Q i).u)), qu (wv0 ((Q i).u)), .slice Ad39 ((([] : List Int) ++ (Q i).es).length) c40]) us29 in56 rfl (T rfl rfl) (T rfl rfl) h53 (by decide) n49.blk rfl h54 (by omega) (by omega) (by omega) (fun _ _ => rfl) rfl ?_)
   intro Ad55 c56 w57 hN58 x59
   have E60 := below_mid E51 N5 E51.size x59
   have := x59.size
   have h61 := (h52.mid x59 (by omega))
   refine ⟨.inr h61, ?_⟩
   refine aw_last 16 (.slice Ad55 (i + 1) c56) rfl (by kernel_rfl) .none (fun _ => dv_assign (T rfl rfl)) <| aw_done (by kernel_rfl) <| rk_inBlock <| rk_reg <| lw_v (qi (i : Int)) (dv_move (T rfl f15)) <| lw_v (qi ((i : Int) + 1)) (dv_add (a := (i : Int)) (b := 1) (z := (i : Int) + 1) (T rfl rfl) C (wr_i64 (by omega) (by omega))) <| lw_v (qi ((i : Int) + 1)) (dv_assign (T rfl rfl)) <| lw_nil ?_
   exact ih9 (l - (i + 1)) _ _ (by rw [hd18]; omega) ⟨(i + 1), (updA S i (Ad39, c40)), Ad55, c56, rfl, f12, f13, rfl, (vi (by omega)), E60, hN58, (by omega), (fun h_ => absurd h_ (Nat.succ_ne_zero _))⟩
 · refine rk_cf (T rfl (qF hb23)) <| rk_exit rfl <| rk_seq <| rk_reg <| lw_v (.slice A2 i c2) (dv_move (T rfl f14)) <| lw_v (.slice A2 i c2) (dv_assign (T rfl rfl)) <| lw_nil <| rk_ret Tryz.func16 (v := .slice A2 i c2) (res1 Tryz.results16 (rv_tmp rfl rfl)) ⟨_, rfl, ?_⟩
   obtain rfl : i = l := by omega
   exact ⟨_, _, _, rfl, E16, (by by_cases h0_ : i = 0 <;> first | exact hg_ h0_ | exact h17.at (by omega)), (h17.lo_le N5).mono h17.lh.2 (Nat.le_refl _)⟩
end Go.Proofs.YtmbpomcbdopgnaaGreat.W
set_option linter.unusedVariables false
set_option linter.unusedSimpArgs false
namespace Go.Proofs.YtmbpomcbdopgnaaGreat.W
open Go Go.RowKit Go.Proofs.YtmbpomcbdopgnaaGreat.Fw
attribute [local irreducible] RunK LW AW DV OE Ct
set_option maxHeartbeats 1000000 in
theorem insC_ok {w : World} {base l c i b g : Nat} {us : List Value} {ws : Nat → Int} (hO : OwC w base 56 (some ⟨g, 0, none⟩) l c us) (h1 : ∀ u ∈ us, u.oneCell' = true) (hb : w.heap[b]? = some (.cells (evC ws none 0 0).toArray 56)) (hne : b ≠ g) (hi : i ≤ l) (hl : l ≤ 1048576) : Ct Tryz.prog 27 [.slice (some ⟨g, 0, none⟩) l c, .int .i64 ((i : Int)), .slice (some ⟨b, 0, none⟩) 1 1] w fun v w1 => ∃ A2 c2, v = .slice A2 (l + 1) c2 ∧ Below base w w1 ∧ Bt 56 w w1 ∧ OwC w1 base 56 A2 (l + 1) c2 (us.take (i * 13) ++ (evC ws none 0 0) ++ us.drop (i * 13)) := by
 refine ct_run (n := 95) Tryz.func27 rfl Tryz.ntmps27 rfl ?_
 have E0 : Below base w w := Below.refl _ _
 have hb0 := hO.2; have hus := hO.len; have hbw := lt_of_blk hb
 obtain ⟨hbg, hlc, _, _⟩ := hO.opn
 have hgw := hO.lt g 0 rfl
 refine rk_seq <| rk_reg <| lw_v (.slice none 0 0) (dv_assign C) <| qN <| lw_v (.slice (some ⟨g, 0, none⟩) l c) (dv_move (T rfl rfl)) <| lw_v (qi (i : Int)) (dv_move (T rfl rfl)) <| lw_v (.slice ((slA (some ⟨g, 0, none⟩) i c)) (l - i) (c - i)) (dv_sliceLo (A := some ⟨g, 0, none⟩) (l := l) (c := c) (i := i) (j := (i : Int)) us29 sz56 (T rfl rfl) (T rfl rfl) (by omega) (by omega)) <| lw_nil <| rk_seq ?_
 refine rk_reg <| lw_v (.slice (some ⟨b, 0, none⟩) 1 1) (dv_move (T rfl rfl)) <| lw_v (qi 1) (dv_len (ad := some ⟨b, 0, none⟩) (l := 1) (c := 1) us29 (T rfl rfl)) <| lw_v (qi 1) (dv_assign (T rfl rfl)) <| lw_nil <| rk_seq <| rk_seq <| rk_reg <| lw_v (qi 1) (dv_move (T rfl rfl)) <| lw_v (qd (((1 : Int) = 0 : Prop))) (dv_eql (a := 1) (b := 0) (T rfl rfl) C) <| lw_nil ?_
 refine rk_cf (T rfl (rfl)) <| rk_skip <| rk_seq <| rk_reg <| lw_v (.slice (some ⟨g, 0, none⟩) l c) (dv_move (T rfl rfl)) <| lw_v (qi (l : Int)) (dv_len (ad := some ⟨g, 0, none⟩) (l := l) (c := c) us29 (T rfl rfl)) <| lw_v (qi (l : Int)) (dv_assign (T rfl rfl)) <| lw_nil <| rk_seq <| rk_seq <| rk_reg ?_
 refine lw_v (qi (i : Int)) (dv_move (T rfl rfl)) <| lw_v (qi (l : Int)) (dv_move (T rfl rfl)) <| lw_v (qd ((i : Int) = (l : Int))) (dv_eql (a := (i : Int)) (b := (l : Int)) (T rfl rfl) (T rfl rfl)) <| lw_nil ?_
 by_cases hb1 : ((i : Int)) = ((l : Int))
 · refine rk_ct (T rfl (qT hb1)) <| rk_seq <| rk_reg <| lw_v (.slice (some ⟨g, 0, none⟩) l c) (dv_move (T rfl rfl)) <| lw_v (.slice (some ⟨b, 0, none⟩) 1 1) (dv_move (T rfl rfl)) <| lw_e (oe_appendC (base := base) (l := l) (m := 1) (us := us) (vs := (evC ws none 0 0)) us29 in56 rfl (T rfl rfl) (T rfl rfl) hO (CelA.one (vs := (evC ws none 0 0)) hb) rfl evC_one (by omega) (by omega) ?_)
   intro Ad2 c3 w4 hR5 x6 bt7
   have E8 := below_bl E0 (Nat.le_refl _) x6
   have := x6.size
   refine lw_v (.slice Ad2 (l + 1) c3) (dv_assign (T rfl rfl)) <| lw_nil <| rk_ret Tryz.func27 (v := .slice Ad2 (l + 1) c3) (res1 Tryz.results27 (rv_tmp rfl rfl)) ⟨_, rfl, ?_⟩
   exact ⟨_, _, rfl, E8, ((Bt.refl 56 _).trans bt7), (hR5.mono (by omega)).eqv (ins_end hus (by omega))⟩
 · refine rk_cf (T rfl (qF hb1)) <| rk_skip <| rk_seq <| rk_seq <| rk_reg <| lw_v (qi (l : Int)) (dv_move (T rfl rfl)) <| lw_v (qi 1) (dv_move (T rfl rfl)) <| lw_v (qi ((l : Int) + 1)) (dv_add (a := (l : Int)) (b := 1) (z := (l : Int) + 1) (T rfl rfl) (T rfl rfl) (wr_i64 (by omega) (by omega))) <| lw_v (.slice (some ⟨g, 0, none⟩) l c) (dv_move (T rfl rfl)) <| lw_v (qi (c : Int)) (dv_capS (A := some ⟨g, 0, none⟩) (l := l) (c := c) us29 (T rfl rfl)) <| lw_v (qd ((c : Int) < ((l : Int) + 1))) (dv_gtr (a := (l : Int) + 1) (b := (c : Int)) (T rfl rfl) (T rfl rfl)) ?_
   refine lw_nil ?_
   by_cases hb9 : ((c : Int)) < (((l : Int)) + 1)
   · refine rk_ct (T rfl (qT hb9)) <| rk_seq <| rk_reg <| lw_v (.slice (some ⟨g, 0, none⟩) l c) (dv_move (T rfl rfl)) <| lw_v (qi (i : Int)) (dv_move (T rfl rfl)) <| lw_v (.slice (some ⟨g, 0, none⟩) i c) (dv_sliceHi (A := some ⟨g, 0, none⟩) (l := l) (c := c) (i := i) (j := (i : Int)) us29 sz56 (T rfl rfl) (T rfl rfl) (by omega) (by omega)) <| lw_v (qi (l : Int)) (dv_move (T rfl rfl)) <| lw_v (qi 1) (dv_move (T rfl rfl)) <| lw_v (qi ((l : Int) + 1)) (dv_add (a := (l : Int)) (b := 1) (z := (l : Int) + 1) (T rfl rfl) (T rfl rfl) (wr_i64 (by omega) (by omega))) <| lw_v (qi (i : Int)) (dv_move (T rfl rfl)) <| lw_v (qi (((l : Int) + 1) - (i : Int))) (dv_sub (a := (l : Int) + 1) (b := (i : Int)) (z := ((l : Int) + 1) - (i : Int)) (T rfl rfl) (T rfl rfl) (wr_i64 (by omega) (by omega))) ?_
     refine lw_e (oe_appendZ (base := base) (l := l) (i := i) (k := l + 1 - i) (j := ((l : Int) + 1) - (i : Int)) (m := l + 1) (us := us) us29 ui3 in56 rfl (by decide) (T rfl rfl) (T rfl rfl) (by omega) hO (by omega) (by omega) (by omega) (by omega) (by omega) ?_)
     intro b10 G11 zs12 w13 hb14 hG15 hz16 hR17 x18
     have := E0.size
     have := Below.fresh x18
     have E19 := below_ext E0 (Nat.le_trans hb0 E0.size) x18
     refine lw_v (.slice (some ⟨b10, 0, none⟩) (l + 1) G11) (dv_assign (T rfl rfl)) <| qN <| lw_v (.slice (some ⟨b10, 0, none⟩) (l + 1) G11) (dv_move (T rfl rfl)) <| lw_v (qi (i : Int)) (dv_move (T rfl rfl)) <| lw_v (.slice ((slA (some ⟨b10, 0, none⟩) i G11)) ((l + 1) - i) (G11 - i)) (dv_sliceLo (A := some ⟨b10, 0, none⟩) (l := l + 1) (c := G11) (i := i) (j := (i : Int)) us29 sz56 (T rfl rfl) (T rfl rfl) (by omega) (by omega)) <| lw_v (.slice (some ⟨b, 0, none⟩) 1 1) (dv_move (T rfl rfl)) ?_
     have H20 := (x18.blk hb)
     refine lw_e (oe_copyC (base := b10) (l := l + 1) (k := i) (us := (us.take (i * 13) ++ zs12)) (cs := (evC ws none 0 0)) us29 sz56 (T rfl rfl) (T rfl rfl) hR17 (by omega) rfl (CelA.one (vs := (evC ws none 0 0)) H20) (nmin1 (by omega)) evC_one ?_)
     intro w21 hR22 x23 bt24
     have E25 := below_st E19 (by omega) x23
     refine lw_nil <| rk_seq <| rk_any (fun _ => True) [] mo ?_
     intro w26 d27
     have := Below.fresh d27.ext
     have E28 := below_ext E25 (Nat.le_trans hb0 E25.size) d27.ext
     refine aw_pure 0 (.slice (some ⟨b10, 0, none⟩) (l + 1) G11) rfl (by kernel_rfl) .none trivial (fun _ => dv_move (T rfl rfl)) <| aw_pure 1 (qi (i : Int)) rfl (by kernel_rfl) .none trivial (fun _ => dv_move (T rfl rfl)) <| aw_pure 2 (qi 1) rfl (by kernel_rfl) .none trivial (fun _ => dv_move (T rfl rfl)) <| aw_pure 3 (qi ((i : Int) + 1)) rfl (by kernel_rfl) .none trivial (fun _ => dv_add (a := (i : Int)) (b := 1) (z := (i : Int) + 1) (T rfl rfl) (T rfl rfl) (wr_i64 (by omega) (by omega))) <| aw_pure 4 (.slice ((slA (some ⟨b10, 0, none⟩) (i + 1) G11)) ((l + 1) - (i + 1)) (G11 - (i + 1))) rfl (by kernel_rfl) .none trivial (fun _ => dv_sliceLo (A := some ⟨b10, 0, none⟩) (l := l + 1) (c := G11) (i := i + 1) (j := (i : Int) + 1) us29 sz56 (T rfl rfl) (T rfl rfl) (by omega) (by omega)) <| aw_pure 5 (.slice (some ⟨g, 0, none⟩) l c) rfl (by kernel_rfl) .none trivial (fun _ => dv_move (T rfl rfl)) <| aw_pure 6 (qi (i : Int)) rfl (by kernel_rfl) .none trivial (fun _ => dv_move (T rfl rfl)) <| aw_pure 7 (.slice ((slA (some ⟨g, 0, none⟩) i c)) (l - i) (c - i)) rfl (by kernel_rfl) .none trivial (fun _ => dv_sliceLo (A := some ⟨g, 0, none⟩) (l := l) (c := c) (i := i) (j := (i : Int)) us29 sz56 (T rfl rfl) (T rfl rfl) (by omega) (by omega)) ?_
     have h29 := (hR22.ext d27.ext)
     have h30 := (((hO.ext x18).stX x23 (fun g_ o_ h_ => by injection h_ with h_; injection h_ with h_ _ _; omega)).ext d27.ext)
     refine aw_one 8 rfl (by kernel_rfl) .none (oe_copyC (base := b10) (l := l + 1) (k := i + 1) (us := ((us.take (i * 13) ++ zs12).take (i * 13) ++ (evC ws none 0 0) ++ (us.take (i * 13) ++ zs12).drop (i * 13 + (evC ws none 0 0).length))) (cs := (us.drop (i * 13))) us29 sz56 (T rfl rfl) (T rfl rfl) h29 (by omega) rfl (OwC.cel h30 (i := i) (by omega)) (dropL hus (by omega) (by omega)) (fun u_ h_ => h1 u_ (List.mem_of_mem_drop h_)) ?_)
     intro w31 hR32 x33 bt34
     have E35 := below_st E28 (by omega) x33
     refine ⟨.inr trivial, ?_⟩
     refine aw_done (by kernel_rfl) <| rk_seq <| rk_reg <| lw_v (.slice (some ⟨b10, 0, none⟩) (l + 1) G11) (dv_move (T rfl rfl)) <| lw_v (.slice (some ⟨b10, 0, none⟩) (l + 1) G11) (dv_assign (T rfl rfl)) <| lw_nil <| rk_ret Tryz.func27 (v := .slice (some ⟨b10, 0, none⟩) (l + 1) G11) (res1 Tryz.results27 (rv_tmp rfl rfl)) ⟨_, rfl, ?_⟩
     exact ⟨_, _, rfl, E35, (((((Bt.refl 56 _).trans (Ext.btT x18)).trans bt24).trans (Ext.btT d27.ext)).trans bt34), (hR32.mono (by omega)).eqv (ins_new hus (by omega) evC_len (by omega))⟩
   · refine rk_cf (T rfl (qF hb9)) <| rk_skip <| rk_seq ?_
     obtain ⟨jk, hjk, hRm⟩ := OwC.more hO (by omega)
     refine rk_reg <| lw_v (.slice (some ⟨g, 0, none⟩) l c) (dv_move (T rfl rfl)) <| lw_v (qi (l : Int)) (dv_move (T rfl rfl)) <| lw_v (qi 1) (dv_move (T rfl rfl)) <| lw_v (qi ((l : Int) + 1)) (dv_add (a := (l : Int)) (b := 1) (z := (l : Int) + 1) (T rfl rfl) (T rfl rfl) (wr_i64 (by omega) (by omega))) <| lw_v (.slice (some ⟨g, 0, none⟩) (l + 1) c) (dv_sliceHi (A := some ⟨g, 0, none⟩) (l := l) (c := c) (i := l + 1) (j := (l : Int) + 1) us29 sz56 (T rfl rfl) (T rfl rfl) (by omega) (by omega)) <| lw_v (.slice (some ⟨g, 0, none⟩) (l + 1) c) (dv_assign (T rfl rfl)) <| lw_nil <| rk_seq <| rk_seq <| rk_reg ?_
     refine lw_v (.slice (some ⟨b, 0, none⟩) 1 1) (dv_move (T rfl rfl)) <| lw_v (.slice (some ⟨g, 0, none⟩) (l + 1) c) (dv_move (T rfl rfl)) <| lw_v (qi (i : Int)) (dv_move (T rfl rfl)) <| lw_v (qi 1) (dv_move (T rfl rfl)) <| lw_v (qi ((i : Int) + 1)) (dv_add (a := (i : Int)) (b := 1) (z := (i : Int) + 1) (T rfl rfl) (T rfl rfl) (wr_i64 (by omega) (by omega))) <| lw_v (.slice ((slA (some ⟨g, 0, none⟩) (i + 1) c)) ((l + 1) - (i + 1)) (c - (i + 1))) (dv_sliceLo (A := some ⟨g, 0, none⟩) (l := l + 1) (c := c) (i := i + 1) (j := (i : Int) + 1) us29 sz56 (T rfl rfl) (T rfl rfl) (by omega) (by omega)) <| lw_v (.bool false) (dv_overlaps (tS := 29) (tR := 4) (vs := (evC ws none 0 0)) (us := (us ++ jk)) (i := i + 1) (l := l + 1) Tryz.func52 rfl (by kernel_rfl) (by kernel_rfl) (by kernel_rfl) us29 sz56 (ar2 (T rfl rfl) (T rfl rfl)) hb hRm (by omega) hne) <| lw_v (.bool true) (dv_not (b := false) (T rfl rfl)) <| lw_nil <| rk_ct (T rfl rfl) <| rk_seq ?_
     refine rk_any (fun _ => True) [] mo ?_
     intro w36 d37
     have := Below.fresh d37.ext
     have E38 := below_ext E0 (Nat.le_trans hb0 E0.size) d37.ext
     refine aw_pure 0 (.slice (some ⟨g, 0, none⟩) (l + 1) c) rfl (by kernel_rfl) .none trivial (fun _ => dv_move (T rfl rfl)) <| aw_pure 1 (qi (i : Int)) rfl (by kernel_rfl) .none trivial (fun _ => dv_move (T rfl rfl)) <| aw_pure 2 (qi 1) rfl (by kernel_rfl) .none trivial (fun _ => dv_move (T rfl rfl)) <| aw_pure 3 (qi ((i : Int) + 1)) rfl (by kernel_rfl) .none trivial (fun _ => dv_add (a := (i : Int)) (b := 1) (z := (i : Int) + 1) (T rfl rfl) (T rfl rfl) (wr_i64 (by omega) (by omega))) <| aw_pure 4 (.slice ((slA (some ⟨g, 0, none⟩) (i + 1) c)) ((l + 1) - (i + 1)) (c - (i + 1))) rfl (by kernel_rfl) .none trivial (fun _ => dv_sliceLo (A := some ⟨g, 0, none⟩) (l := l + 1) (c := c) (i := i + 1) (j := (i : Int) + 1) us29 sz56 (T rfl rfl) (T rfl rfl) (by omega) (by omega)) <| aw_pure 5 (.slice (some ⟨g, 0, none⟩) (l + 1) c) rfl (by kernel_rfl) .none trivial (fun _ => dv_move (T rfl rfl)) <| aw_pure 6 (qi (i : Int)) rfl (by kernel_rfl) .none trivial (fun _ => dv_move (T rfl rfl)) <| aw_pure 7 (.slice ((slA (some ⟨g, 0, none⟩) i c)) ((l + 1) - i) (c - i)) rfl (by kernel_rfl) .none trivial (fun _ => dv_sliceLo (A := some ⟨g, 0, none⟩) (l := l + 1) (c := c) (i := i) (j := (i : Int)) us29 sz56 (T rfl rfl) (T rfl rfl) (by omega) (by omega)) ?_
     have h39 := (hRm.ext d37.ext)
     refine aw_one 8 rfl (by kernel_rfl) .none (oe_copyC (base := base) (l := l + 1) (k := i + 1) (us := (us ++ jk)) (cs := (us.drop (i * 13))) us29 sz56 (T rfl rfl) (T rfl rfl) h39 (by omega) rfl (OwC.celO (l := l) h39 hus (i := i) (by omega) (by omega)) (dropL hus (by omega) (by omega)) (fun u_ h_ => h1 u_ (List.mem_of_mem_drop h_)) ?_)
     intro w40 hR41 x42 bt43
     have E44 := below_st E38 (by omega) x42
     refine ⟨.inr trivial, ?_⟩
     refine aw_done (by kernel_rfl) <| rk_seq <| rk_reg <| lw_v (.slice (some ⟨g, 0, none⟩) (l + 1) c) (dv_move (T rfl rfl)) <| lw_v (qi (i : Int)) (dv_move (T rfl rfl)) <| lw_v (.slice ((slA (some ⟨g, 0, none⟩) i c)) ((l + 1) - i) (c - i)) (dv_sliceLo (A := some ⟨g, 0, none⟩) (l := l + 1) (c := c) (i := i) (j := (i : Int)) us29 sz56 (T rfl rfl) (T rfl rfl) (by omega) (by omega)) <| lw_v (.slice (some ⟨b, 0, none⟩) 1 1) (dv_move (T rfl rfl)) ?_
     have H45 := (x42.blk (d37.ext.blk hb) (by omega))
     refine lw_e (oe_copyC (base := base) (l := l + 1) (k := i) (us := ((us ++ jk).take ((i + 1) * 13) ++ (us.drop (i * 13)) ++ (us ++ jk).drop ((i + 1) * 13 + (us.drop (i * 13)).length))) (cs := (evC ws none 0 0)) us29 sz56 (T rfl rfl) (T rfl rfl) hR41 (by omega) rfl (CelA.one (vs := (evC ws none 0 0)) H45) (nmin1 (by omega)) evC_one ?_)
     intro w46 hR47 x48 bt49
     have E50 := below_st E44 (by omega) x48
     refine qN <| lw_v (.slice (some ⟨g, 0, none⟩) (l + 1) c) (dv_move (T rfl rfl)) <| lw_v (.slice (some ⟨g, 0, none⟩) (l + 1) c) (dv_assign (T rfl rfl)) <| lw_nil <| rk_ret Tryz.func27 (v := .slice (some ⟨g, 0, none⟩) (l + 1) c) (res1 Tryz.results27 (rv_tmp rfl rfl)) ⟨_, rfl, ?_⟩
     exact ⟨_, _, rfl, E50, ((((Bt.refl 56 _).trans (Ext.btT d37.ext)).trans bt43).trans bt49), (hR47.mono (by omega)).eqv (ins_room hus hjk evC_len (by omega))⟩
theorem insE_ok {w : World} {lo hi g l c i b : Nat} {Q : Nat → Ev} {SL : SlF} {x y u : Int} (hN : NG w lo hi 56 2 (some ⟨g, 0, none⟩) l c (fun i_ => evW (Q i_)) (fun i_ => (Q i_).es) SL)
 (hH : w.heap[b]? = some (.cells (evC (evW ⟨x, y, u, []⟩) none 0 0).toArray 56)) (hb : hi ≤ b) (hi' : i ≤ l) (hl : l ≤ 1048576) :
 Ct Tryz.prog 27 [.slice (some ⟨g, 0, none⟩) l c, .int .i64 (i : Int), .slice (some ⟨b, 0, none⟩) 1 1] w fun v w1 => ∃ g2 c2 Q2 S2, v = .slice (some ⟨g2, 0, none⟩) (l + 1) c2 ∧ Below lo w w1 ∧ Q2 = insF Q i ⟨x, y, u, []⟩ ∧ NG w1 lo w1.heap.size 56 2 (some ⟨g2, 0, none⟩) (l + 1) c2 (fun i_ => evW (Q2 i_)) (fun i_ => (Q2 i_).es) S2 := by
 obtain ⟨vs, hC, hR⟩ := hN.cel
 have hI := hN.inn
 have hlh := hN.lh
 have h_ := insC_ok hR hC.one hH (by have := hN.rlt g 0 rfl; omega) hi' hl
 unfold Ct at h_ ⊢
 refine Calls.mono h_ fun e w' ⟨v, he, A2, c2, hv, hB, hBt, hO⟩ => ⟨v, he, ?_⟩
 have hI2 := (hI.bt hBt hB.size (by decide)).ins (i := i) (A1 := none) (c1 := 0) (L1 := []) hi' (Ow.nil0 (Nat.le_refl _)) (by have := hB.size; omega)
 have hG := NG.mk' hI2 (hC.ins (i := i) (ws := evW ⟨x, y, u, []⟩) (A1 := none) (c1 := 0) (L1 := []) hi') hO (Nat.le_refl _)
 obtain ⟨g2, hg2⟩ := hG.at (by omega)
 subst hg2
 refine ⟨g2, c2, insF Q i ⟨x, y, u, []⟩, insF SL i (none, 0), hv, hB, rfl, ?_⟩
 have e1 : (fun q => evW (insF Q i ⟨x, y, u, []⟩ q)) = insF (fun q => evW (Q q)) i (evW ⟨x, y, u, []⟩) := insF_map evW Q i _
 have e2 : (fun q => (insF Q i ⟨x, y, u, []⟩ q).es) = insF (fun q => (Q q).es) i [] := insF_map Ev.es Q i _
 rw [e1, e2]
 exact hG
end Go.Proofs.YtmbpomcbdopgnaaGreat.W
set_option linter.unusedVariables false
set_option linter.unusedSimpArgs false
namespace Go.Proofs.YtmbpomcbdopgnaaGreat.W
open Go Go.RowKit Go.Proofs.YtmbpomcbdopgnaaGreat.Fw
attribute [local irreducible] RunK LW AW DV OE Ct
theorem zc2 : zcB Tryz.prog 2 = some [.int .i64 0] := by kernel_rfl
set_option maxHeartbeats 1000000 in
theorem l7With_ok {w : World} {A : Option Addr} {l c : Nat} {xs : List Int} (hx : RdI w .i64 A xs) {x : Int} (hxl : xs.length = l) (hxb : l ≤ 1048576) : Ct Tryz.prog 19 [.slice A l c, .int .i64 x] w fun v w1 => ∃ A2 c2, v = .slice A2 (withL xs x).length c2 ∧ Ext w w1 ∧ Ow w1 w.heap.size 2 .i64 A2 c2 (withL xs x) := by
 refine ct_run (n := 49) Tryz.func19 rfl Tryz.ntmps19 rfl ?_
 have E0 : Below w.heap.size w w := Below.refl _ _
 refine rk_seq <| rk_reg <| lw_v (.slice none 0 0) (dv_assign C) <| qN <| lw_e (oe_buildSlice0 us41 sz2 ?_)
 intro b1 w2 n3
 have N4 : w.heap.size ≤ b1 := n3.eq ▸ E0.size
 have E5 := below_ext E0 E0.size n3.ext
 have hO6 := Ow.made (T := 2) (k := .i64) (z := .int .i64 0) (c := 0) n3 (by decide)
 refine lw_v (.slice (some ⟨b1, 0, none⟩) (([] : List Int).length) 0) (dv_assign (T rfl rfl)) <| qN <| lw_v (.bool false) (dv_assign C) <| lw_nil <| rk_seq <| rk_seq <| rk_reg <| lw_v (qi 0) (dv_assign C) <| lw_nil ?_
 refine rk_block <| rk_loop (fun dm_ fr wl => ∃ (i : Nat) (p : Bool) (M : List Int) (A2 : Option Addr) (c2 : Nat), dm_ = l - i ∧ fr 0 = .slice A l c ∧ fr 1 = qi x ∧ fr 4 = .slice none 0 0 ∧ fr 5 = .slice A2 (M.length) c2 ∧ fr 6 = .bool p ∧ fr 7 = qi (i : Int) ∧ Below w.heap.size w wl ∧ Ow wl b1 2 .i64 A2 c2 M ∧ (i ≤ l) ∧ (wlI x xs i p M) ∧ (M.length ≤ 2 * i)) (l - 0) ⟨0, false, ([] : List Int), (some ⟨b1, 0, none⟩), 0, rfl, rfl, rfl, rfl, rfl, rfl, (vi (by omega)), E5, hO6, (Nat.zero_le _), (wlI_0 _ _), (by simp)⟩ ?_
 intro d11 fr10 w7 hI8 ih9
 obtain ⟨i, p, M, A2, c2, hd20, f12, f13, f14, f15, f16, f17, E18, h19, hi_, hW, hM⟩ := hI8
 refine rk_seq <| rk_seq <| rk_reg <| lw_v (qi (i : Int)) (dv_move (T rfl f17)) <| lw_v (.slice A l c) (dv_move (T rfl f12)) <| lw_v (qi (l : Int)) (dv_len (ad := A) (l := l) (c := c) us41 (T rfl rfl)) <| lw_v (qd ((i : Int) < (l : Int))) (dv_lss (a := (i : Int)) (b := (l : Int)) (T rfl rfl) (T rfl rfl)) <| lw_nil ?_
 by_cases hb21 : ((i : Int)) < ((l : Int))
 · refine rk_ct (T rfl (qT hb21)) <| rk_skip <| rk_seq <| rk_block <| rk_seq <| rk_seq <| rk_reg <| lw_v (.bool p) (dv_move (T rfl f16)) <| lw_v (.bool (!p)) (dv_not (T rfl rfl)) <| lw_v (.bool (!p)) (dv_move (T rfl rfl)) ?_
   rcases Bool.eq_false_or_eq_true (!p) with hb22 | hb22
   · refine lw_vy (.slice A l c) (d := 17) rfl rfl (congrArg Value.bool hb22) (dv_move (T rfl f12)) <| lw_vy (qi (i : Int)) (d := 17) rfl rfl (congrArg Value.bool hb22) (dv_move (T rfl f17)) ?_
     have h23 := (hx.ext E18)
     obtain ⟨g24, o25, rfl⟩ := RdI.at h23 (by first | omega | (simp; done) | (simp; omega))
     refine lw_vy (.pointer (some ⟨g24, o25 + i, none⟩)) (d := 17) rfl rfl (congrArg Value.bool hb22) (dv_indexW (g := g24) (o := o25) (l := l) (c := c) (i := i) (j := (i : Int)) us41 sz2 (T rfl rfl) (T rfl rfl) (by omega) (by first | omega | (simp; done) | (simp; omega))) <| lw_vy (qi (xs.getD i 0)) (d := 17) rfl rfl (congrArg Value.bool hb22) (dv_load agt2 (T rfl rfl) (RdI.cell h23 (by first | omega | (simp; done) | (simp; omega)))) <| lw_vy (qi x) (d := 17) rfl rfl (congrArg Value.bool hb22) (dv_move (T rfl f13)) <| lw_vy (qd (x ≤ (xs.getD i 0))) (d := 17) rfl rfl (congrArg Value.bool hb22) (dv_geq (a := xs.getD i 0) (b := x) (T rfl rfl) (T rfl rfl)) <| lw_v (qd (x ≤ (xs.getD i 0))) (dv_pick_t (T rfl (congrArg Value.bool hb22)) (T rfl rfl)) <| lw_nil ?_
     by_cases hb26 : x ≤ (xs.getD i 0)
     · refine rk_ct (T rfl (qT hb26)) <| rk_seq <| rk_reg <| lw_v (.slice A2 (M.length) c2) (dv_move (T rfl f15)) <| lw_v (qi x) (dv_move (T rfl f13)) <| lw_e (oe_buildSlice (pv := [(0, qi x)]) (init := [qi 0]) (l := [qi x]) us41 sz2 rfl rfl zc2 (by kernel_rfl) ⟨rfl, (T rfl rfl), trivial⟩ rfl ?_)
       intro b27 w28 n29
       have N30 : w.heap.size ≤ b27 := n29.eq ▸ E18.size
       have E31 := below_ext E18 E18.size n29.ext
       have h32 := (h19.ext n29.ext)
       refine lw_e (oe_appendT (base := b1) (L := M) (M := [x]) (m := 1) us41 in2 (T rfl rfl) (T rfl rfl) h32 (Wd.ownW (xs := [x]) n29.blk) rfl (by first | omega | (simp; done) | (simp; omega)) (by first | omega | (simp; done) | (simp; omega)) ?_)
       intro Ad34 c35 w36 hO37 x38 bt33
       have E39 := below_bl E31 N4 x38
       refine lw_v (.slice Ad34 ((M ++ [x]).length) c35) (dv_assign (T rfl rfl)) <| lw_nil <| rk_reg <| lw_v (.bool true) (dv_assign C) <| qN <| lw_v (.slice (some ⟨g24, o25, none⟩) l c) (dv_move (T rfl f12)) <| lw_v (qi (i : Int)) (dv_move (T rfl f17)) <| lw_v (.pointer (some ⟨g24, o25 + i, none⟩)) (dv_indexW (g := g24) (o := o25) (l := l) (c := c) (i := i) (j := (i : Int)) us41 sz2 (T rfl rfl) (T rfl rfl) (by omega) (by first | omega | (simp; done) | (simp; omega))) ?_
       have h40 := hx.ext E39
       refine lw_v (qi (xs.getD i 0)) (dv_load agt2 (T rfl rfl) (RdI.cell h40 (by first | omega | (simp; done) | (simp; omega)))) <| lw_v (qi x) (dv_move (T rfl f13)) <| lw_v (qd ((xs.getD i 0) ≠ x)) (dv_neq (a := xs.getD i 0) (b := x) (T rfl rfl) (T rfl rfl)) <| lw_nil ?_
       by_cases hb41 : (xs.getD i 0) ≠ x
       · refine rk_ct (T rfl (qT hb41)) <| rk_reg <| lw_v (.slice Ad34 ((M ++ [x]).length) c35) (dv_move (T rfl rfl)) <| lw_v (.slice (some ⟨g24, o25, none⟩) l c) (dv_move (T rfl f12)) <| lw_v (qi (i : Int)) (dv_move (T rfl f17)) <| lw_v (.pointer (some ⟨g24, o25 + i, none⟩)) (dv_indexW (g := g24) (o := o25) (l := l) (c := c) (i := i) (j := (i : Int)) us41 sz2 (T rfl rfl) (T rfl rfl) (by omega) (by first | omega | (simp; done) | (simp; omega))) <| lw_v (qi (xs.getD i 0)) (dv_load agt2 (T rfl rfl) (RdI.cell h40 (by first | omega | (simp; done) | (simp; omega)))) <| lw_e (oe_buildSlice (pv := [(0, qi (xs.getD i 0))]) (init := [qi 0]) (l := [qi (xs.getD i 0)]) us41 sz2 rfl rfl zc2 (by kernel_rfl) ⟨rfl, (T rfl rfl), trivial⟩ rfl ?_)
         intro b42 w43 n44
         have N45 : w.heap.size ≤ b42 := n44.eq ▸ E39.size
         have E46 := below_ext E39 E39.size n44.ext
         have h47 := (hO37.ext n44.ext)
         refine lw_e (oe_appendT (base := b1) (L := (M ++ [x])) (M := [xs.getD i 0]) (m := 1) us41 in2 (T rfl rfl) (T rfl rfl) h47 (Wd.ownW (xs := [xs.getD i 0]) n44.blk) rfl (by first | omega | (simp; done) | (simp; omega)) (by first | omega | (simp; done) | (simp; omega)) ?_)
         intro Ad49 c50 w51 hO52 x53 bt48
         have E54 := below_bl E46 N4 x53
         refine lw_v (.slice Ad49 (((M ++ [x]) ++ [xs.getD i 0]).length) c50) (dv_assign (T rfl rfl)) <| lw_nil <| rk_inBlock <| rk_reg <| lw_v (qi (i : Int)) (dv_move (T rfl f17)) <| lw_v (qi ((i : Int) + 1)) (dv_add (a := (i : Int)) (b := 1) (z := (i : Int) + 1) (T rfl rfl) C (wr_i64 (by omega) (by omega))) <| lw_v (qi ((i : Int) + 1)) (dv_assign (T rfl rfl)) <| lw_nil ?_
         exact ih9 (l - (i + 1)) _ _ (by rw [hd20]; omega) ⟨(i + 1), true, ((M ++ [x]) ++ [xs.getD i 0]), Ad49, c50, rfl, f12, f13, f14, rfl, rfl, (vi (by omega)), E54, hO52, (by omega), (wlI_tn ((bnot_t hb22) ▸ hW) (by omega) (by omega) (by omega)), (by first | omega | (simp only [List.length_append, List.length_singleton]; omega))⟩
       · refine rk_cf (T rfl (qF hb41)) <| rk_skip <| rk_inBlock <| rk_reg <| lw_v (qi (i : Int)) (dv_move (T rfl f17)) <| lw_v (qi ((i : Int) + 1)) (dv_add (a := (i : Int)) (b := 1) (z := (i : Int) + 1) (T rfl rfl) C (wr_i64 (by omega) (by omega))) <| lw_v (qi ((i : Int) + 1)) (dv_assign (T rfl rfl)) <| lw_nil ?_
         exact ih9 (l - (i + 1)) _ _ (by rw [hd20]; omega) ⟨(i + 1), true, (M ++ [x]), Ad34, c35, rfl, f12, f13, f14, rfl, rfl, (vi (by omega)), E39, hO37, (by omega), (wlI_te ((bnot_t hb22) ▸ hW) (by omega) (by omega) (by omega)), (by first | omega | (simp only [List.length_append, List.length_singleton]; omega))⟩
     · refine rk_cf (T rfl (qF hb26)) <| rk_skip <| rk_seq <| rk_reg <| lw_v (.slice (some ⟨g24, o25, none⟩) l c) (dv_move (T rfl f12)) <| lw_v (qi (i : Int)) (dv_move (T rfl f17)) <| lw_v (.pointer (some ⟨g24, o25 + i, none⟩)) (dv_indexW (g := g24) (o := o25) (l := l) (c := c) (i := i) (j := (i : Int)) us41 sz2 (T rfl rfl) (T rfl rfl) (by omega) (by first | omega | (simp; done) | (simp; omega))) <| lw_v (qi (xs.getD i 0)) (dv_load agt2 (T rfl rfl) (RdI.cell h23 (by first | omega | (simp; done) | (simp; omega)))) <| lw_v (qi x) (dv_move (T rfl f13)) <| lw_v (qd ((xs.getD i 0) ≠ x)) (dv_neq (a := xs.getD i 0) (b := x) (T rfl rfl) (T rfl rfl)) <| lw_nil ?_
       by_cases hb55 : (xs.getD i 0) ≠ x
       · refine rk_ct (T rfl (qT hb55)) <| rk_reg <| lw_v (.slice A2 (M.length) c2) (dv_move (T rfl f15)) <| lw_v (.slice (some ⟨g24, o25, none⟩) l c) (dv_move (T rfl f12)) <| lw_v (qi (i : Int)) (dv_move (T rfl f17)) <| lw_v (.pointer (some ⟨g24, o25 + i, none⟩)) (dv_indexW (g := g24) (o := o25) (l := l) (c := c) (i := i) (j := (i : Int)) us41 sz2 (T rfl rfl) (T rfl rfl) (by omega) (by first | omega | (simp; done) | (simp; omega))) <| lw_v (qi (xs.getD i 0)) (dv_load agt2 (T rfl rfl) (RdI.cell h23 (by first | omega | (simp; done) | (simp; omega)))) <| lw_e (oe_buildSlice (pv := [(0, qi (xs.getD i 0))]) (init := [qi 0]) (l := [qi (xs.getD i 0)]) us41 sz2 rfl rfl zc2 (by kernel_rfl) ⟨rfl, (T rfl rfl), trivial⟩ rfl ?_)
         intro b56 w57 n58
         have N59 : w.heap.size ≤ b56 := n58.eq ▸ E18.size
         have E60 := below_ext E18 E18.size n58.ext
         have h61 := (h19.ext n58.ext)
         refine lw_e (oe_appendT (base := b1) (L := M) (M := [xs.getD i 0]) (m := 1) us41 in2 (T rfl rfl) (T rfl rfl) h61 (Wd.ownW (xs := [xs.getD i 0]) n58.blk) rfl (by first | omega | (simp; done) | (simp; omega)) (by first | omega | (simp; done) | (simp; omega)) ?_)
         intro Ad63 c64 w65 hO66 x67 bt62
         have E68 := below_bl E60 N4 x67
         refine lw_v (.slice Ad63 ((M ++ [xs.getD i 0]).length) c64) (dv_assign (T rfl rfl)) <| lw_nil <| rk_inBlock <| rk_reg <| lw_v (qi (i : Int)) (dv_move (T rfl f17)) <| lw_v (qi ((i : Int) + 1)) (dv_add (a := (i : Int)) (b := 1) (z := (i : Int) + 1) (T rfl rfl) C (wr_i64 (by omega) (by omega))) <| lw_v (qi ((i : Int) + 1)) (dv_assign (T rfl rfl)) <| lw_nil ?_
         exact ih9 (l - (i + 1)) _ _ (by rw [hd20]; omega) ⟨(i + 1), p, (M ++ [xs.getD i 0]), Ad63, c64, rfl, f12, f13, f14, rfl, f16, (vi (by omega)), E68, hO66, (by omega), (wlI_fn hW (by omega) (.inr (by omega)) (by omega)), (by first | omega | (simp only [List.length_append, List.length_singleton]; omega))⟩
       · refine rk_cf (T rfl (qF hb55)) <| rk_skip <| rk_inBlock <| rk_reg <| lw_v (qi (i : Int)) (dv_move (T rfl f17)) <| lw_v (qi ((i : Int) + 1)) (dv_add (a := (i : Int)) (b := 1) (z := (i : Int) + 1) (T rfl rfl) C (wr_i64 (by omega) (by omega))) <| lw_v (qi ((i : Int) + 1)) (dv_assign (T rfl rfl)) <| lw_nil ?_
         exact ih9 (l - (i + 1)) _ _ (by rw [hd20]; omega) ⟨(i + 1), p, M, A2, c2, rfl, f12, f13, f14, f15, f16, (vi (by omega)), E18, h19, (by omega), (wlI_fe hW (by omega) (.inr (by omega)) (by omega)), (by first | omega | (simp only [List.length_append, List.length_singleton]; omega))⟩
   · refine lw_no (d := 17) rfl rfl (congrArg Value.bool hb22) <| lw_no (d := 17) rfl rfl (congrArg Value.bool hb22) <| lw_no (d := 17) rfl rfl (congrArg Value.bool hb22) <| lw_no (d := 17) rfl rfl (congrArg Value.bool hb22) <| lw_no (d := 17) rfl rfl (congrArg Value.bool hb22) <| lw_no (d := 17) rfl rfl (congrArg Value.bool hb22) <| lw_v (.bool false) (dv_pick_f (T rfl (congrArg Value.bool hb22)) C) <| lw_nil <| rk_cf (T rfl rfl) <| rk_skip <| rk_seq ?_
     refine rk_reg <| lw_v (.slice A l c) (dv_move (T rfl f12)) <| lw_v (qi (i : Int)) (dv_move (T rfl f17)) ?_
     have h69 := (hx.ext E18)
     obtain ⟨g70, o71, rfl⟩ := RdI.at h69 (by first | omega | (simp; done) | (simp; omega))
     refine lw_v (.pointer (some ⟨g70, o71 + i, none⟩)) (dv_indexW (g := g70) (o := o71) (l := l) (c := c) (i := i) (j := (i : Int)) us41 sz2 (T rfl rfl) (T rfl rfl) (by omega) (by first | omega | (simp; done) | (simp; omega))) <| lw_v (qi (xs.getD i 0)) (dv_load agt2 (T rfl rfl) (RdI.cell h69 (by first | omega | (simp; done) | (simp; omega)))) <| lw_v (qi x) (dv_move (T rfl f13)) <| lw_v (qd ((xs.getD i 0) ≠ x)) (dv_neq (a := xs.getD i 0) (b := x) (T rfl rfl) (T rfl rfl)) <| lw_nil ?_
     by_cases hb72 : (xs.getD i 0) ≠ x
     · refine rk_ct (T rfl (qT hb72)) <| rk_reg <| lw_v (.slice A2 (M.length) c2) (dv_move (T rfl f15)) <| lw_v (.slice (some ⟨g70, o71, none⟩) l c) (dv_move (T rfl f12)) <| lw_v (qi (i : Int)) (dv_move (T rfl f17)) <| lw_v (.pointer (some ⟨g70, o71 + i, none⟩)) (dv_indexW (g := g70) (o := o71) (l := l) (c := c) (i := i) (j := (i : Int)) us41 sz2 (T rfl rfl) (T rfl rfl) (by omega) (by first | omega | (simp; done) | (simp; omega))) <| lw_v (qi (xs.getD i 0)) (dv_load agt2 (T rfl rfl) (RdI.cell h69 (by first | omega | (simp; done) | (simp; omega)))) <| lw_e (oe_buildSlice (pv := [(0, qi (xs.getD i 0))]) (init := [qi 0]) (l := [qi (xs.getD i 0)]) us41 sz2 rfl rfl zc2 (by kernel_rfl) ⟨rfl, (T rfl rfl), trivial⟩ rfl ?_)
       intro b73 w74 n75
       have N76 : w.heap.size ≤ b73 := n75.eq ▸ E18.size
       have E77 := below_ext E18 E18.size n75.ext
       have h78 := (h19.ext n75.ext)
       refine lw_e (oe_appendT (base := b1) (L := M) (M := [xs.getD i 0]) (m := 1) us41 in2 (T rfl rfl) (T rfl rfl) h78 (Wd.ownW (xs := [xs.getD i 0]) n75.blk) rfl (by first | omega | (simp; done) | (simp; omega)) (by first | omega | (simp; done) | (simp; omega)) ?_)
       intro Ad80 c81 w82 hO83 x84 bt79
       have E85 := below_bl E77 N4 x84
       refine lw_v (.slice Ad80 ((M ++ [xs.getD i 0]).length) c81) (dv_assign (T rfl rfl)) <| lw_nil <| rk_inBlock <| rk_reg <| lw_v (qi (i : Int)) (dv_move (T rfl f17)) <| lw_v (qi ((i : Int) + 1)) (dv_add (a := (i : Int)) (b := 1) (z := (i : Int) + 1) (T rfl rfl) C (wr_i64 (by omega) (by omega))) <| lw_v (qi ((i : Int) + 1)) (dv_assign (T rfl rfl)) <| lw_nil ?_
       exact ih9 (l - (i + 1)) _ _ (by rw [hd20]; omega) ⟨(i + 1), p, (M ++ [xs.getD i 0]), Ad80, c81, rfl, f12, f13, f14, rfl, f16, (vi (by omega)), E85, hO83, (by omega), (wlI_fn hW (by omega) (.inl (bnot_f hb22)) (by omega)), (by first | omega | (simp only [List.length_append, List.length_singleton]; omega))⟩
     · refine rk_cf (T rfl (qF hb72)) <| rk_skip <| rk_inBlock <| rk_reg <| lw_v (qi (i : Int)) (dv_move (T rfl f17)) <| lw_v (qi ((i : Int) + 1)) (dv_add (a := (i : Int)) (b := 1) (z := (i : Int) + 1) (T rfl rfl) C (wr_i64 (by omega) (by omega))) <| lw_v (qi ((i : Int) + 1)) (dv_assign (T rfl rfl)) <| lw_nil ?_
       exact ih9 (l - (i + 1)) _ _ (by rw [hd20]; omega) ⟨(i + 1), p, M, A2, c2, rfl, f12, f13, f14, f15, f16, (vi (by omega)), E18, h19, (by omega), (wlI_fe hW (by omega) (.inl (bnot_f hb22)) (by omega)), (by first | omega | (simp only [List.length_append, List.length_singleton]; omega))⟩
 · refine rk_cf (T rfl (qF hb21)) <| rk_exit rfl <| rk_seq <| rk_seq <| rk_reg <| lw_v (.bool p) (dv_move (T rfl f16)) <| lw_v (.bool (!p)) (dv_not (T rfl rfl)) <| lw_nil ?_
   rcases Bool.eq_false_or_eq_true (!p) with hb86 | hb86
   · refine rk_ct (T rfl (congrArg Value.bool hb86)) <| rk_reg <| lw_v (.slice A2 (M.length) c2) (dv_move (T rfl f15)) <| lw_v (qi x) (dv_move (T rfl f13)) <| lw_e (oe_buildSlice (pv := [(0, qi x)]) (init := [qi 0]) (l := [qi x]) us41 sz2 rfl rfl zc2 (by kernel_rfl) ⟨rfl, (T rfl rfl), trivial⟩ rfl ?_)
     intro b87 w88 n89
     have N90 : w.heap.size ≤ b87 := n89.eq ▸ E18.size
     have E91 := below_ext E18 E18.size n89.ext
     have h92 := (h19.ext n89.ext)
     refine lw_e (oe_appendT (base := b1) (L := M) (M := [x]) (m := 1) us41 in2 (T rfl rfl) (T rfl rfl) h92 (Wd.ownW (xs := [x]) n89.blk) rfl (by first | omega | (simp; done) | (simp; omega)) (by first | omega | (simp; done) | (simp; omega)) ?_)
     intro Ad94 c95 w96 hO97 x98 bt93
     have E99 := below_bl E91 N4 x98
     refine lw_v (.slice Ad94 ((M ++ [x]).length) c95) (dv_assign (T rfl rfl)) <| qN <| lw_v (.slice Ad94 ((M ++ [x]).length) c95) (dv_move (T rfl rfl)) <| lw_v (.slice Ad94 ((M ++ [x]).length) c95) (dv_assign (T rfl rfl)) <| lw_nil <| rk_ret Tryz.func19 (v := .slice Ad94 ((M ++ [x]).length) c95) (res1 Tryz.results19 (rv_tmp rfl rfl)) ⟨_, rfl, ?_⟩
     have hz := wlI_end hW (by omega)
     have hp_ := bnot_t hb86
     rw [hp_] at hz
     simp only [if_true, if_false, List.append_nil, Bool.false_eq_true] at hz
     rw [← hz]
     exact ⟨_, _, rfl, E99, hO97.mono N4⟩
   · refine rk_cf (T rfl (congrArg Value.bool hb86)) <| rk_skip <| rk_seq <| rk_reg <| lw_v (.slice A2 (M.length) c2) (dv_move (T rfl f15)) <| lw_v (.slice A2 (M.length) c2) (dv_assign (T rfl rfl)) <| lw_nil <| rk_ret Tryz.func19 (v := .slice A2 (M.length) c2) (res1 Tryz.results19 (rv_tmp rfl rfl)) ⟨_, rfl, ?_⟩
     have hz := wlI_end hW (by omega)
     have hp_ := bnot_f hb86
     rw [hp_] at hz
     simp only [if_true, if_false, List.append_nil, Bool.false_eq_true] at hz
     rw [← hz]
     exact ⟨_, _, rfl, E18, h19.mono N4⟩
end Go.Proofs.YtmbpomcbdopgnaaGreat.W
set_option linter.unusedVariables false
set_option linter.unusedSimpArgs false
namespace Go.Proofs.YtmbpomcbdopgnaaGreat.W
open Go Go.RowKit Go.Proofs.YtmbpomcbdopgnaaGreat.Fw
attribute [local irreducible] RunK LW AW DV OE Ct
theorem containsI_ok {w : World} {A : Option Addr} {l c : Nat} {xs : List Int} {x : Int} (hx : RdI w .i64 A xs) (hl : xs.length = l) (hb : l ≤ 1048576) : Ct Tryz.prog 28 [.slice A l c, .int .i64 x] w fun v w1 => v = .bool (decide (x ∈ xs)) ∧ Ext w w1 := by
 subst hl
 unfold Ct
 by_cases h0 : xs.length = 0
 · have hn := List.length_eq_zero_iff.1 h0
   subst hn
   exact Calls.mono (Tryz.slices_Contains_int_empty A c x w) fun e w' ⟨he, hw⟩ => ⟨_, he, by simp, hw ▸ Below.refl _ _⟩
 · obtain ⟨g, o, rfl⟩ := hx.at (by omega)
   exact Calls.mono (Tryz.slices_Contains_int g o xs.length c xs x w (Nat.le_refl _) (by omega) (fun j hj => hx.cell hj)) fun e w' ⟨he, hw⟩ => ⟨_, he, by rw [List.take_length, List.contains_eq_mem], hw ▸ Below.refl _ _⟩
theorem sortI_ok {w : World} {lo hi l c i n ci : Nat} {A Bi : Option Addr} {W : Nat → Nat → Int} {E : Nat → List Int} {SL : SlF} (hN : NG w lo hi 56 2 A l c W E SL) (hi' : i < l) (hB : Bi = (SL i).1) (hc : ci = (SL i).2) (hn : n = (E i).length) (h0 : 0 < n) (hb : n ≤ 1048576) :
 Ct Tryz.prog 29 [.slice Bi n ci] w fun v w1 => v = .tuple #[] ∧ Below lo w w1 ∧ NG w1 lo w1.heap.size 56 2 A l c W (updA E i ((E i).mergeSort fun a b => decide (a ≤ b))) SL := by
 subst hB; subst hc; subst hn
 have hO := (hN.inner i hi').1
 obtain ⟨b, hb1, _, hbw⟩ := hO.some_of h0
 have hS : SL i = (some ⟨b, 0, none⟩, (SL i).2) := by rw [← hb1]
 rw [hb1] at hO ⊢
 unfold Ct
 refine Calls.mono (Tryz.slices_Sort_int b 0 (SL i).2 (E i) w hO.holds hbw (by omega)) fun e w' ⟨he, m, os, hw⟩ => ⟨_, he, rfl, ?_⟩
 obtain ⟨h1, h2⟩ := hN.sorted (by decide) hi' hS rfl (List.length_mergeSort _) hw
 exact ⟨h2, h1⟩
end Go.Proofs.YtmbpomcbdopgnaaGreat.W
