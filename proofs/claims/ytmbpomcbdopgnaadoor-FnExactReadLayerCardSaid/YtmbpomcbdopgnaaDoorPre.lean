/- Walks and plain mathematics, packed by a program of this session: declarations that the rows reach. -/
import Derived.Test.YtmbpomcbdopgnaaDoorPrd
set_option linter.unusedVariables false
set_option linter.unusedSimpArgs false
namespace Go.Proofs.YtmbpomcbdopgnaaDoor.W
open Go Go.RowKit Go.Proofs.YtmbpomcbdopgnaaDoor.Fw
attribute [local irreducible] RunK LW AW DV OE Ct
theorem co19 : callOk Tryd.prog 19 = true := by kernel_rfl
theorem co20 : callOk Tryd.prog 20 = true := by kernel_rfl
set_option maxHeartbeats 1000000 in
theorem markSpotS_ok {w : World} {A : Option Addr} {n c base : Nat} {L : List Int} {k : Int} (hO : OwS w base 41 2 .i64 A n c L) (hN : n ≤ 1048576) (hk : 0 ≤ k ∧ k ≤ 1152921504606846976) : Ct Tryd.prog 19 [.slice A n c, .int .i64 k] w fun v w1 => v = .int .i64 (k + (n : Int) * 2) ∧ Sb A w w1 ∧ OwS w1 base 41 2 .i64 A n c (mkL k (n * 2)) := by
 refine ct_run (n := 27) Tryd.func19 rfl Tryd.ntmps19 rfl ?_
 have E0 : Below base w w := Below.refl _ _
 have hb0 := hO.2
 refine rk_seq ?_
 refine rk_reg ?_
 refine lw_v (.int .i64 0) (dv_assign C) ?_
 refine lw_nil ?_
 refine rk_seq ?_
 refine rk_seq ?_
 refine rk_reg ?_
 refine lw_v (.int .i64 0) (dv_assign C) ?_
 refine lw_nil ?_
 refine rk_block ?_
 refine rk_loop (fun dm_ fr wl => ∃ (i : Nat) (M : List Int), dm_ = n - i ∧ fr 0 = .slice A n c ∧ fr 1 = .int .i64 (k + (i : Int) * 2) ∧ fr 4 = .int .i64 0 ∧ fr 5 = .int .i64 ((i : Int)) ∧ Below base w wl ∧ OwS wl base 41 2 .i64 A n c M ∧ (i ≤ n) ∧ (M.length = n * 2) ∧ (M.take (i * 2) = (mkL k (n * 2)).take (i * 2)) ∧ (Sb A w wl)) (n - 0) ⟨0, L, rfl, rfl, (vi (by omega)), rfl, (vi (by omega)), E0, hO, (Nat.zero_le _), hO.len, (by simp), (Sb.refl _ _)⟩ ?_
 intro d5 fr4 w1 hI2 ih3
 obtain ⟨i, M, hd12, f6, f7, f8, f9, E10, h11, hi, hM, hmk, hSb⟩ := hI2
 refine rk_seq ?_
 refine rk_seq ?_
 refine rk_reg ?_
 refine lw_v (.int .i64 ((i : Int))) (dv_move (T rfl f9)) ?_
 refine lw_v (.slice A n c) (dv_move (T rfl f6)) ?_
 refine lw_v (.int .i64 ((n : Int))) (dv_len (ad := A) (l := n) (c := c) us35 (T rfl rfl)) ?_
 refine lw_v (.bool (decide (((i : Int)) < ((n : Int))))) (dv_lss (a := (i : Int)) (b := (n : Int)) (T rfl rfl) (T rfl rfl)) ?_
 refine lw_nil ?_
 by_cases hb13 : ((i : Int)) < ((n : Int))
 · refine rk_ct (T rfl (congrArg Value.bool (decide_eq_true hb13))) ?_
   refine rk_skip ?_
   refine rk_seq ?_
   refine rk_block ?_
   refine rk_seq ?_
   refine rk_reg ?_
   refine lw_v (.slice A n c) (dv_move (T rfl f6)) ?_
   refine lw_v (.int .i64 ((i : Int))) (dv_move (T rfl f9)) ?_
   refine lw_v (.int .i64 (k + (i : Int) * 2)) (dv_move (T rfl f7)) ?_
   obtain ⟨g14, o15, rfl⟩ := OwS.at h11 (by first | omega | (simp; done) | (simp; omega))
   refine lw_v (.pointer (some ⟨g14, o15 + i * 2, none⟩)) (dv_indexM (g := g14) (o := o15) (l := n) (c := c) (i := i) (j := (i : Int)) (m := 2) us35 sz41 (T rfl rfl) (T rfl rfl) (by omega) (by first | omega | (simp; done) | (simp; omega))) ?_
   refine lw_v (.pointer (some ⟨g14, o15 + (i * 2), none⟩)) (dv_fieldW (g := g14) (o := o15) (i := i * 2) fo41_0 (T rfl rfl)) ?_
   refine lw_e (oe_storeOwT (g := g14) (o := o15) (i := i * 2) (z := k + (i : Int) * 2) sz2 (T rfl rfl) (T rfl rfl) h11 (by first | omega | (simp; done) | (simp; omega)) ?_)
   intro w16 hO17 x18 hs19
   have E20 := below_bl E10 (Nat.le_refl _) x18
   refine lw_nil ?_
   refine rk_seq ?_
   refine rk_reg ?_
   refine lw_v (.int .i64 (k + (i : Int) * 2)) (dv_move (T rfl f7)) ?_
   refine lw_v (.int .i64 ((k + (i : Int) * 2) + 1)) (dv_add (a := k + (i : Int) * 2) (b := 1) (z := (k + (i : Int) * 2) + 1) (T rfl rfl) C (wr_i64 (by omega) (by omega))) ?_
   refine lw_v (.int .i64 ((k + (i : Int) * 2) + 1)) (dv_assign (T rfl rfl)) ?_
   refine lw_nil ?_
   refine rk_seq ?_
   refine rk_reg ?_
   refine lw_v (.slice (some ⟨g14, o15, none⟩) n c) (dv_move (T rfl f6)) ?_
   refine lw_v (.int .i64 ((i : Int))) (dv_move (T rfl f9)) ?_
   refine lw_v (.int .i64 ((k + (i : Int) * 2) + 1)) (dv_move (T rfl rfl)) ?_
   refine lw_v (.pointer (some ⟨g14, o15 + i * 2, none⟩)) (dv_indexM (g := g14) (o := o15) (l := n) (c := c) (i := i) (j := (i : Int)) (m := 2) us35 sz41 (T rfl rfl) (T rfl rfl) (by omega) (by first | omega | (simp; done) | (simp; omega))) ?_
   refine lw_v (.pointer (some ⟨g14, o15 + (i * 2 + 1), none⟩)) (dv_fieldW (g := g14) (o := o15) (i := i * 2) fo41_1 (T rfl rfl)) ?_
   refine lw_e (oe_storeOwT (g := g14) (o := o15) (i := i * 2 + 1) (z := (k + (i : Int) * 2) + 1) sz2 (T rfl rfl) (T rfl rfl) hO17 (by first | omega | (simp; done) | (simp; omega)) ?_)
   intro w21 hO22 x23 hs24
   have E25 := below_bl E20 (Nat.le_refl _) x23
   refine lw_nil ?_
   refine rk_reg ?_
   refine lw_v (.int .i64 ((k + (i : Int) * 2) + 1)) (dv_move (T rfl rfl)) ?_
   refine lw_v (.int .i64 (((k + (i : Int) * 2) + 1) + 1)) (dv_add (a := (k + (i : Int) * 2) + 1) (b := 1) (z := ((k + (i : Int) * 2) + 1) + 1) (T rfl rfl) C (wr_i64 (by omega) (by omega))) ?_
   refine lw_v (.int .i64 (((k + (i : Int) * 2) + 1) + 1)) (dv_assign (T rfl rfl)) ?_
   refine lw_nil ?_
   refine rk_inBlock ?_
   refine rk_reg ?_
   refine lw_v (.int .i64 ((i : Int))) (dv_move (T rfl f9)) ?_
   refine lw_v (.int .i64 (((i : Int)) + 1)) (dv_add (a := (i : Int)) (b := 1) (z := ((i : Int)) + 1) (T rfl rfl) C (wr_i64 (by omega) (by omega))) ?_
   refine lw_v (.int .i64 (((i : Int)) + 1)) (dv_assign (T rfl rfl)) ?_
   refine lw_nil ?_
   exact ih3 (n - ((i + 1))) _ _ (by rw [hd12]; omega) ⟨(i + 1), (((M.set (i * 2) (k + (i : Int) * 2))).set (i * 2 + 1) ((k + (i : Int) * 2) + 1)), rfl, f6, (vi (by omega)), f8, (vi (by omega)), E25, hO22, (by omega), (by simp [hM]), (mkL_step2 hmk hM (by omega) (by omega) (by omega)), ((hSb.st hs19).st hs24)⟩
 · refine rk_cf (T rfl (congrArg Value.bool (decide_eq_false hb13))) ?_
   refine rk_exit rfl ?_
   refine rk_seq ?_
   refine rk_reg ?_
   refine lw_v (.int .i64 (k + (i : Int) * 2)) (dv_move (T rfl f7)) ?_
   refine lw_v (.int .i64 (k + (i : Int) * 2)) (dv_assign (T rfl rfl)) ?_
   refine lw_nil ?_
   refine rk_ret Tryd.func19 (v := .int .i64 (k + (i : Int) * 2)) (res1 Tryd.results19 (rv_tmp rfl rfl)) ⟨_, rfl, ?_⟩
   have hz : M = mkL k (n * 2) := take_all hmk (by omega) (by rw [mkL_len]; omega)
   exact ⟨vi (by omega), hSb, by rw [← hz]; exact h11⟩
theorem markInnerR_ok {w : World} {lo hi i l : Nat} {k : Int} {N : Nat → Nat} {E : Nat → List Int} {SL : SlF} (hR : RIn w lo hi 41 l N E SL) (hi' : i < l) (hN : N i ≤ 1048576) (hk : 0 ≤ k ∧ k ≤ 1152921504606846976) :
 Ct Tryd.prog 19 [.slice (SL i).1 (N i) (SL i).2, .int .i64 k] w fun v w1 => v = .int .i64 (k + (N i : Int) * 2) ∧ Below lo w w1 ∧ Bt 41 w w1 ∧ RIn w1 lo hi 41 l N (updA E i (mkL k (N i * 2))) SL := by
 have h_ := markSpotS_ok (hR.inner i hi').1 hN hk
 unfold Ct at h_ ⊢
 refine Calls.mono h_ fun e w' ⟨v, he, hv, hS, hO⟩ => ⟨v, he, hv, hS.below (fun b o hA => ((hR.inner i hi').1.lt b o hA).1.1), hS.bt (hR.inner i hi').1, hR.marked hi' hS hO⟩
set_option maxHeartbeats 1000000 in
theorem markRingS_ok {w : World} {lo hi : Nat} {k0 : Int} {A : Option Addr} {l c : Nat} {V : List Value} {N : Nat → Nat} {E : Nat → List Int} {SL : SlF} (hO : OwV w lo 37 A l c V) (hR : RIn w lo hi 41 l N E SL) (hV : ∀ q, q < l → V[q]? = some (.slice (SL q).1 (N q) (SL q).2)) (hxn : ∀ i, i < l → N i ≤ 1048576) (hl : l ≤ 1048576) (hk : 0 ≤ k0 ∧ k0 ≤ 1073741824) : Ct Tryd.prog 8 [.slice A l c, .int .i64 k0] w fun v w1 => v = .int .i64 (kR k0 N l) ∧ Below lo w w1 ∧ OwV w1 lo 37 A l c V ∧ RIn w1 lo hi 41 l N (mkR k0 N) SL := by
 refine ct_run (n := 20) Tryd.func8 rfl Tryd.ntmps8 rfl ?_
 have E0 : Below lo w w := Below.refl _ _
 have hb0 := hO.2
 refine rk_seq ?_
 refine rk_reg ?_
 refine lw_v (.int .i64 0) (dv_assign C) ?_
 refine lw_nil ?_
 refine rk_seq ?_
 refine rk_seq ?_
 refine rk_reg ?_
 refine lw_v (.int .i64 0) (dv_assign C) ?_
 refine lw_nil ?_
 refine rk_block ?_
 refine rk_loop (fun dm_ fr wl => ∃ (i : Nat) (kk : Int) (E' : Nat → List Int), dm_ = l - i ∧ fr 0 = .slice A l c ∧ fr 1 = .int .i64 kk ∧ fr 4 = .int .i64 0 ∧ fr 5 = .int .i64 ((i : Int)) ∧ Below lo w wl ∧ OwV wl lo 37 A l c V ∧ RIn wl lo hi 41 l N E' SL ∧ (i ≤ l) ∧ (kk = kR k0 N i) ∧ (∀ q, q < i → E' q = mkR k0 N q)) (l - 0) ⟨0, k0, E, rfl, rfl, (rfl), rfl, (vi (by omega)), E0, hO, hR, (Nat.zero_le _), (kR_0 _ _).symm, (fun q hq => absurd hq (Nat.not_lt_zero _))⟩ ?_
 intro d5 fr4 w1 hI2 ih3
 obtain ⟨i, kk, E', hd13, f6, f7, f8, f9, E10, h11, h12, hi_, hkk, hmk⟩ := hI2
 have hkr := kR_rg (k := k0) hxn hi_; have hks := kR_s k0 N i; have hni := fun h_ : i < l => hxn i h_
 refine rk_seq ?_
 refine rk_seq ?_
 refine rk_reg ?_
 refine lw_v (.int .i64 ((i : Int))) (dv_move (T rfl f9)) ?_
 refine lw_v (.slice A l c) (dv_move (T rfl f6)) ?_
 refine lw_v (.int .i64 ((l : Int))) (dv_len (ad := A) (l := l) (c := c) us22 (T rfl rfl)) ?_
 refine lw_v (.bool (decide (((i : Int)) < ((l : Int))))) (dv_lss (a := (i : Int)) (b := (l : Int)) (T rfl rfl) (T rfl rfl)) ?_
 refine lw_nil ?_
 by_cases hb14 : ((i : Int)) < ((l : Int))
 · refine rk_ct (T rfl (congrArg Value.bool (decide_eq_true hb14))) ?_
   refine rk_skip ?_
   refine rk_seq ?_
   refine rk_block ?_
   refine rk_reg ?_
   refine lw_v (.slice A l c) (dv_move (T rfl f6)) ?_
   refine lw_v (.int .i64 ((i : Int))) (dv_move (T rfl f9)) ?_
   obtain ⟨g15, o16, rfl⟩ := OwV.at h11 (by first | omega | (simp; done) | (simp; omega))
   refine lw_v (.pointer (some ⟨g15, o16 + i, none⟩)) (dv_indexW (g := g15) (o := o16) (l := l) (c := c) (i := i) (j := (i : Int)) us22 sz37 (T rfl rfl) (T rfl rfl) (by omega) (by first | omega | (simp; done) | (simp; omega))) ?_
   refine lw_v (.pointer (some ⟨g15, o16 + i, none⟩)) (dv_fieldW (g := g15) (o := o16) (i := i) fo37_0 (T rfl rfl)) ?_
   refine lw_v (.slice ((SL i).1) (N i) ((SL i).2)) (dv_load agt35 (T rfl rfl) (OwV.cell h11 (hV i (by omega)))) ?_
   refine lw_v (.int .i64 kk) (dv_move (T rfl f7)) ?_
   refine lw_e (oe_callf (vs := [.slice ((SL i).1) (N i) ((SL i).2), .int .i64 kk]) co19 (ar2 (T rfl rfl) (T rfl rfl)) (markInnerR_ok (i := i) h12 (by first | omega | (simp; done) | (simp; omega)) (by omega) (by omega)) ?_)
   rintro _ w19 ⟨rfl, e20, bt18, hR17⟩
   have := e20.size
   have E21 := below_bl E10 (Nat.le_refl _) e20
   refine lw_v (.int .i64 (kk + (N i : Int) * 2)) (dv_assign (T rfl rfl)) ?_
   refine lw_nil ?_
   refine rk_inBlock ?_
   refine rk_reg ?_
   refine lw_v (.int .i64 ((i : Int))) (dv_move (T rfl f9)) ?_
   refine lw_v (.int .i64 (((i : Int)) + 1)) (dv_add (a := (i : Int)) (b := 1) (z := ((i : Int)) + 1) (T rfl rfl) C (wr_i64 (by omega) (by omega))) ?_
   refine lw_v (.int .i64 (((i : Int)) + 1)) (dv_assign (T rfl rfl)) ?_
   refine lw_nil ?_
   have h22 := (h11.bt bt18 e20.size (by decide))
   exact ih3 (l - ((i + 1))) _ _ (by rw [hd13]; omega) ⟨(i + 1), (kk + (N i : Int) * 2), (updA E' i (mkL kk ((N i) * 2))), rfl, f6, (rfl), f8, (vi (by omega)), E21, h22, hR17, (by omega), (by rw [hks]; omega), (fun q hq => if hqi : q = i then (by subst hqi; rw [updA_same, hkk]; rfl) else (by rw [updA_ne _ _ hqi]; exact hmk q (by omega)))⟩
 · refine rk_cf (T rfl (congrArg Value.bool (decide_eq_false hb14))) ?_
   refine rk_exit rfl ?_
   refine rk_seq ?_
   refine rk_reg ?_
   refine lw_v (.int .i64 kk) (dv_move (T rfl f7)) ?_
   refine lw_v (.int .i64 kk) (dv_assign (T rfl rfl)) ?_
   refine lw_nil ?_
   refine rk_ret Tryd.func8 (v := .int .i64 kk) (res1 Tryd.results8 (rv_tmp rfl rfl)) ⟨_, rfl, ?_⟩
   obtain rfl : i = l := by omega
   exact ⟨vi hkk, E10, h11, (h12).congr (fun _ _ => rfl) (fun q hq => (hmk q hq).symm) (fun _ _ => rfl)⟩
set_option maxHeartbeats 1000000 in
theorem heldSpotS_ok {w : World} {A : Option Addr} {n c : Nat} {xs : List Int} (hx : RdI w .i64 A xs) {k : Int} (hxl : xs.length = n * 2) (hxb : n ≤ 1048576) (hm : xs = mkL k (n * 2)) (hk : 0 ≤ k ∧ k ≤ 1152921504606846976) : Ct Tryd.prog 20 [.slice A n c, .int .i64 k] w fun v w1 => v = .int .i64 (k + (n : Int) * 2) ∧ Ext w w1 := by
 refine ct_run (n := 31) Tryd.func20 rfl Tryd.ntmps20 rfl ?_
 have E0 : Below w.heap.size w w := Below.refl _ _
 refine rk_seq ?_
 refine rk_reg ?_
 refine lw_v (.int .i64 0) (dv_assign C) ?_
 refine lw_nil ?_
 refine rk_seq ?_
 refine rk_seq ?_
 refine rk_reg ?_
 refine lw_v (.int .i64 0) (dv_assign C) ?_
 refine lw_nil ?_
 refine rk_block ?_
 refine rk_loop (fun dm_ fr wl => ∃ (i : Nat), dm_ = n - i ∧ fr 0 = .slice A n c ∧ fr 1 = .int .i64 (k + (i : Int) * 2) ∧ fr 5 = .int .i64 ((i : Int)) ∧ Below w.heap.size w wl ∧ (i ≤ n)) (n - 0) ⟨0, rfl, rfl, (vi (by omega)), (vi (by omega)), E0, (Nat.zero_le _)⟩ ?_
 intro d5 fr4 w1 hI2 ih3
 obtain ⟨i, hd10, f6, f7, f8, E9, hi⟩ := hI2
 refine rk_seq ?_
 refine rk_seq ?_
 refine rk_reg ?_
 refine lw_v (.int .i64 ((i : Int))) (dv_move (T rfl f8)) ?_
 refine lw_v (.slice A n c) (dv_move (T rfl f6)) ?_
 refine lw_v (.int .i64 ((n : Int))) (dv_len (ad := A) (l := n) (c := c) us35 (T rfl rfl)) ?_
 refine lw_v (.bool (decide (((i : Int)) < ((n : Int))))) (dv_lss (a := (i : Int)) (b := (n : Int)) (T rfl rfl) (T rfl rfl)) ?_
 refine lw_nil ?_
 by_cases hb11 : ((i : Int)) < ((n : Int))
 · refine rk_ct (T rfl (congrArg Value.bool (decide_eq_true hb11))) ?_
   refine rk_skip ?_
   refine rk_seq ?_
   refine rk_block ?_
   refine rk_seq ?_
   refine rk_seq ?_
   refine rk_reg ?_
   refine lw_v (.slice A n c) (dv_move (T rfl f6)) ?_
   refine lw_v (.int .i64 ((i : Int))) (dv_move (T rfl f8)) ?_
   have h12 := (hx.ext E9)
   obtain ⟨g13, o14, rfl⟩ := RdI.at h12 (by first | omega | (simp; done) | (simp; omega))
   refine lw_v (.pointer (some ⟨g13, o14 + i * 2, none⟩)) (dv_indexM (g := g13) (o := o14) (l := n) (c := c) (i := i) (j := (i : Int)) (m := 2) us35 sz41 (T rfl rfl) (T rfl rfl) (by omega) (by first | omega | (simp; done) | (simp; omega))) ?_
   refine lw_v (.pointer (some ⟨g13, o14 + (i * 2), none⟩)) (dv_fieldW (g := g13) (o := o14) (i := i * 2) fo41_0 (T rfl rfl)) ?_
   refine lw_v (.int .i64 (xs.getD (i * 2) 0)) (dv_load agt2 (T rfl rfl) (RdI.cell h12 (by first | omega | (simp; done) | (simp; omega)))) ?_
   refine lw_v (.int .i64 (k + (i : Int) * 2)) (dv_move (T rfl f7)) ?_
   refine lw_v (.bool (decide ((xs.getD (i * 2) 0) ≠ (k + (i : Int) * 2)))) (dv_neq (a := xs.getD (i * 2) 0) (b := k + (i : Int) * 2) (T rfl rfl) (T rfl rfl)) ?_
   refine lw_nil ?_
   by_cases hb15 : (xs.getD (i * 2) 0) ≠ (k + (i : Int) * 2)
   · refine rk_ct (T rfl (congrArg Value.bool (decide_eq_true hb15))) ?_
     refine rk_seq ?_
     refine rk_reg ?_
     refine lw_v (.int .i64 (-1)) (dv_assign C) ?_
     refine lw_nil ?_
     refine rk_ret Tryd.func20 (v := .int .i64 (-1)) (res1 Tryd.results20 (rv_tmp rfl rfl)) ⟨_, rfl, ?_⟩
     exfalso
     have h1_ := (congrArg (fun q : List Int => q.getD (i * 2) 0) hm).trans (mkL_getD (by omega)); have h2_ := (congrArg (fun q : List Int => q.getD (i * 2 + 1) 0) hm).trans (mkL_getD (by omega))
     omega
   · refine rk_cf (T rfl (congrArg Value.bool (decide_eq_false hb15))) ?_
     refine rk_skip ?_
     refine rk_seq ?_
     refine rk_reg ?_
     refine lw_v (.int .i64 (k + (i : Int) * 2)) (dv_move (T rfl f7)) ?_
     refine lw_v (.int .i64 ((k + (i : Int) * 2) + 1)) (dv_add (a := k + (i : Int) * 2) (b := 1) (z := (k + (i : Int) * 2) + 1) (T rfl rfl) C (wr_i64 (by omega) (by omega))) ?_
     refine lw_v (.int .i64 ((k + (i : Int) * 2) + 1)) (dv_assign (T rfl rfl)) ?_
     refine lw_nil ?_
     refine rk_seq ?_
     refine rk_seq ?_
     refine rk_reg ?_
     refine lw_v (.slice (some ⟨g13, o14, none⟩) n c) (dv_move (T rfl f6)) ?_
     refine lw_v (.int .i64 ((i : Int))) (dv_move (T rfl f8)) ?_
     refine lw_v (.pointer (some ⟨g13, o14 + i * 2, none⟩)) (dv_indexM (g := g13) (o := o14) (l := n) (c := c) (i := i) (j := (i : Int)) (m := 2) us35 sz41 (T rfl rfl) (T rfl rfl) (by omega) (by first | omega | (simp; done) | (simp; omega))) ?_
     refine lw_v (.pointer (some ⟨g13, o14 + (i * 2 + 1), none⟩)) (dv_fieldW (g := g13) (o := o14) (i := i * 2) fo41_1 (T rfl rfl)) ?_
     refine lw_v (.int .i64 (xs.getD (i * 2 + 1) 0)) (dv_load agt2 (T rfl rfl) (RdI.cell h12 (by first | omega | (simp; done) | (simp; omega)))) ?_
     refine lw_v (.int .i64 ((k + (i : Int) * 2) + 1)) (dv_move (T rfl rfl)) ?_
     refine lw_v (.bool (decide ((xs.getD (i * 2 + 1) 0) ≠ ((k + (i : Int) * 2) + 1)))) (dv_neq (a := xs.getD (i * 2 + 1) 0) (b := (k + (i : Int) * 2) + 1) (T rfl rfl) (T rfl rfl)) ?_
     refine lw_nil ?_
     by_cases hb16 : (xs.getD (i * 2 + 1) 0) ≠ ((k + (i : Int) * 2) + 1)
     · refine rk_ct (T rfl (congrArg Value.bool (decide_eq_true hb16))) ?_
       refine rk_seq ?_
       refine rk_reg ?_
       refine lw_v (.int .i64 (-1)) (dv_assign C) ?_
       refine lw_nil ?_
       refine rk_ret Tryd.func20 (v := .int .i64 (-1)) (res1 Tryd.results20 (rv_tmp rfl rfl)) ⟨_, rfl, ?_⟩
       exfalso
       have h1_ := (congrArg (fun q : List Int => q.getD (i * 2) 0) hm).trans (mkL_getD (by omega)); have h2_ := (congrArg (fun q : List Int => q.getD (i * 2 + 1) 0) hm).trans (mkL_getD (by omega))
       omega
     · refine rk_cf (T rfl (congrArg Value.bool (decide_eq_false hb16))) ?_
       refine rk_skip ?_
       refine rk_reg ?_
       refine lw_v (.int .i64 ((k + (i : Int) * 2) + 1)) (dv_move (T rfl rfl)) ?_
       refine lw_v (.int .i64 (((k + (i : Int) * 2) + 1) + 1)) (dv_add (a := (k + (i : Int) * 2) + 1) (b := 1) (z := ((k + (i : Int) * 2) + 1) + 1) (T rfl rfl) C (wr_i64 (by omega) (by omega))) ?_
       refine lw_v (.int .i64 (((k + (i : Int) * 2) + 1) + 1)) (dv_assign (T rfl rfl)) ?_
       refine lw_nil ?_
       refine rk_inBlock ?_
       refine rk_reg ?_
       refine lw_v (.int .i64 ((i : Int))) (dv_move (T rfl f8)) ?_
       refine lw_v (.int .i64 (((i : Int)) + 1)) (dv_add (a := (i : Int)) (b := 1) (z := ((i : Int)) + 1) (T rfl rfl) C (wr_i64 (by omega) (by omega))) ?_
       refine lw_v (.int .i64 (((i : Int)) + 1)) (dv_assign (T rfl rfl)) ?_
       refine lw_nil ?_
       exact ih3 (n - ((i + 1))) _ _ (by rw [hd10]; omega) ⟨(i + 1), rfl, f6, (vi (by omega)), (vi (by omega)), E9, (by omega)⟩
 · refine rk_cf (T rfl (congrArg Value.bool (decide_eq_false hb11))) ?_
   refine rk_exit rfl ?_
   refine rk_seq ?_
   refine rk_reg ?_
   refine lw_v (.int .i64 (k + (i : Int) * 2)) (dv_move (T rfl f7)) ?_
   refine lw_v (.int .i64 (k + (i : Int) * 2)) (dv_assign (T rfl rfl)) ?_
   refine lw_nil ?_
   refine rk_ret Tryd.func20 (v := .int .i64 (k + (i : Int) * 2)) (res1 Tryd.results20 (rv_tmp rfl rfl)) ⟨_, rfl, ?_⟩
   exact ⟨vi (by omega), E9⟩
set_option maxHeartbeats 1000000 in
theorem heldRingS_ok {w : World} {A : Option Addr} {l c : Nat} {N : Nat → Nat} {E : Nat → List Int} {SL : SlF} {lo hi : Nat} (hx : RR w lo hi A l N E SL) (hxb : l ≤ 1048576) (hxn : ∀ i, i < l → N i ≤ 1048576) {k0 : Int} (hmk : ∀ q, q < l → E q = mkR k0 N q) (hk : 0 ≤ k0 ∧ k0 ≤ 1073741824) : Ct Tryd.prog 9 [.slice A l c, .int .i64 k0] w fun v w1 => v = .int .i64 (kR k0 N l) ∧ Ext w w1 := by
 refine ct_run (n := 22) Tryd.func9 rfl Tryd.ntmps9 rfl ?_
 have E0 : Below w.heap.size w w := Below.refl _ _
 have hl := hxb
 refine rk_seq ?_
 refine rk_reg ?_
 refine lw_v (.int .i64 0) (dv_assign C) ?_
 refine lw_nil ?_
 refine rk_seq ?_
 refine rk_seq ?_
 refine rk_reg ?_
 refine lw_v (.int .i64 0) (dv_assign C) ?_
 refine lw_nil ?_
 refine rk_block ?_
 refine rk_loop (fun dm_ fr wl => ∃ (i : Nat) (kk : Int), dm_ = l - i ∧ fr 0 = .slice A l c ∧ fr 1 = .int .i64 kk ∧ fr 5 = .int .i64 ((i : Int)) ∧ Below w.heap.size w wl ∧ (i ≤ l) ∧ (kk = kR k0 N i)) (l - 0) ⟨0, k0, rfl, rfl, (rfl), (vi (by omega)), E0, (Nat.zero_le _), (kR_0 _ _).symm⟩ ?_
 intro d5 fr4 w1 hI2 ih3
 obtain ⟨i, kk, hd10, f6, f7, f8, E9, hi_, hkk⟩ := hI2
 obtain ⟨As11, hAs13⟩ : ∃ q_ : Option Addr, q_ = (SL i).1 := ⟨_, rfl⟩
 obtain ⟨cs12, hcs14⟩ : ∃ q_ : Nat, q_ = (SL i).2 := ⟨_, rfl⟩
 have hel := fun h_ : i < l => RR.len hx (i := i) h_; have hnn := fun h_ : i < l => hxn i h_
 have hkr := kR_rg (k := k0) hxn hi_; have hks := kR_s k0 N i; have hni := fun h_ : i < l => hxn i h_
 refine rk_seq ?_
 refine rk_seq ?_
 refine rk_reg ?_
 refine lw_v (.int .i64 ((i : Int))) (dv_move (T rfl f8)) ?_
 refine lw_v (.slice A l c) (dv_move (T rfl f6)) ?_
 refine lw_v (.int .i64 ((l : Int))) (dv_len (ad := A) (l := l) (c := c) us22 (T rfl rfl)) ?_
 refine lw_v (.bool (decide (((i : Int)) < ((l : Int))))) (dv_lss (a := (i : Int)) (b := (l : Int)) (T rfl rfl) (T rfl rfl)) ?_
 refine lw_nil ?_
 by_cases hb15 : ((i : Int)) < ((l : Int))
 · refine rk_ct (T rfl (congrArg Value.bool (decide_eq_true hb15))) ?_
   refine rk_skip ?_
   refine rk_seq ?_
   refine rk_block ?_
   refine rk_seq ?_
   refine rk_reg ?_
   refine lw_v (.slice A l c) (dv_move (T rfl f6)) ?_
   refine lw_v (.int .i64 ((i : Int))) (dv_move (T rfl f8)) ?_
   have h18 := (hx.ext E9)
   obtain ⟨g16, o17, rfl⟩ := RR.at h18 (by first | omega | (simp; done) | (simp; omega))
   refine lw_v (.pointer (some ⟨g16, o17 + i, none⟩)) (dv_indexW (g := g16) (o := o17) (l := l) (c := c) (i := i) (j := (i : Int)) us22 sz37 (T rfl rfl) (T rfl rfl) (by omega) (by first | omega | (simp; done) | (simp; omega))) ?_
   refine lw_v (.pointer (some ⟨g16, o17 + i, none⟩)) (dv_fieldW (g := g16) (o := o17) (i := i) fo37_0 (T rfl rfl)) ?_
   refine lw_v (.slice As11 (N i) cs12) (dv_load agt35 (T rfl rfl) (RR.sl (i := i) h18 (by first | omega | (simp; done) | (simp; omega)) hAs13 hcs14)) ?_
   refine lw_v (.int .i64 kk) (dv_move (T rfl f7)) ?_
   refine lw_e (oe_callf (vs := [.slice As11 (N i) cs12, .int .i64 kk]) co20 (ar2 (T rfl rfl) (T rfl rfl)) (heldSpotS_ok (n := N i) (c := cs12) (xs := E i) (k := kk) (RR.rd (i := i) h18 (by first | omega | (simp; done) | (simp; omega)) hAs13) (by omega) (by omega) (by rw [hmk i (by omega), hkk]; rfl) (by omega)) ?_)
   rintro _ w19 ⟨rfl, e20⟩
   have E21 := below_ext E9 E9.size e20
   refine lw_v (.int .i64 (kk + (N i : Int) * 2)) (dv_assign (T rfl rfl)) ?_
   refine lw_nil ?_
   refine rk_seq ?_
   refine rk_reg ?_
   refine lw_v (.int .i64 (kk + (N i : Int) * 2)) (dv_move (T rfl rfl)) ?_
   refine lw_v (.bool (decide ((kk + (N i : Int) * 2) < 0))) (dv_lss (a := kk + (N i : Int) * 2) (b := 0) (T rfl rfl) C) ?_
   refine lw_nil ?_
   by_cases hb22 : (kk + (N i : Int) * 2) < 0
   · refine rk_ct (T rfl (congrArg Value.bool (decide_eq_true hb22))) ?_
     refine rk_seq ?_
     refine rk_reg ?_
     refine lw_v (.int .i64 (-1)) (dv_assign C) ?_
     refine lw_nil ?_
     refine rk_ret Tryd.func9 (v := .int .i64 (-1)) (res1 Tryd.results9 (rv_tmp rfl rfl)) ⟨_, rfl, ?_⟩
     exfalso; omega
   · refine rk_cf (T rfl (congrArg Value.bool (decide_eq_false hb22))) ?_
     refine rk_skip ?_
     refine rk_inBlock ?_
     refine rk_reg ?_
     refine lw_v (.int .i64 ((i : Int))) (dv_move (T rfl f8)) ?_
     refine lw_v (.int .i64 (((i : Int)) + 1)) (dv_add (a := (i : Int)) (b := 1) (z := ((i : Int)) + 1) (T rfl rfl) C (wr_i64 (by omega) (by omega))) ?_
     refine lw_v (.int .i64 (((i : Int)) + 1)) (dv_assign (T rfl rfl)) ?_
     refine lw_nil ?_
     exact ih3 (l - ((i + 1))) _ _ (by rw [hd10]; omega) ⟨(i + 1), (kk + (N i : Int) * 2), rfl, f6, (rfl), (vi (by omega)), E21, (by omega), (by rw [hks]; omega)⟩
 · refine rk_cf (T rfl (congrArg Value.bool (decide_eq_false hb15))) ?_
   refine rk_exit rfl ?_
   refine rk_seq ?_
   refine rk_reg ?_
   refine lw_v (.int .i64 kk) (dv_move (T rfl f7)) ?_
   refine lw_v (.int .i64 kk) (dv_assign (T rfl rfl)) ?_
   refine lw_nil ?_
   refine rk_ret Tryd.func9 (v := .int .i64 kk) (res1 Tryd.results9 (rv_tmp rfl rfl)) ⟨_, rfl, ?_⟩
   obtain rfl : i = l := by omega
   exact ⟨vi hkk, E9⟩
end Go.Proofs.YtmbpomcbdopgnaaDoor.W
set_option linter.unusedVariables false
set_option linter.unusedSimpArgs false
namespace Go.Proofs.YtmbpomcbdopgnaaDoor.W
open Go Go.RowKit Go.Proofs.YtmbpomcbdopgnaaDoor.Fw
attribute [local irreducible] RunK LW AW DV OE Ct
theorem co5 : callOk Tryd.prog 5 = true := by kernel_rfl
theorem co6 : callOk Tryd.prog 6 = true := by kernel_rfl
theorem co7 : callOk Tryd.prog 7 = true := by kernel_rfl
theorem co8 : callOk Tryd.prog 8 = true := by kernel_rfl
theorem co9 : callOk Tryd.prog 9 = true := by kernel_rfl
set_option maxHeartbeats 4000000 in
theorem lawReadLayer_ok {w : World} {L : List Int} (hL : okW 256 L) (hb : Lb w) : Ct Tryd.prog 3 [.string (bOf L)] w fun v w1 => v = .bool true ∧ Ext w w1 := by
 refine ct_run (n := 66) Tryd.func3 rfl Tryd.ntmps3 rfl ?_
 have E0 : Below w.heap.size w w := Below.refl _ _
 refine rk_seq ?_
 refine rk_reg ?_
 refine lw_v (.bool false) (dv_assign C) ?_
 refine lw_nil ?_
 refine rk_seq ?_
 refine rk_seq ?_
 refine rk_reg ?_
 refine lw_v (.string (bOf L)) (dv_move (T rfl rfl)) ?_
 refine lw_v (.int .i64 ((L.length : Int))) (dv_lenS (L := L) ut9 (T rfl rfl)) ?_
 refine lw_v (.bool (decide (1048576 < ((L.length : Int))))) (dv_gtr (a := (L.length : Int)) (b := 1048576) (T rfl rfl) C) ?_
 refine lw_nil ?_
 by_cases hb1 : 1048576 < ((L.length : Int))
 · refine rk_ct (T rfl (congrArg Value.bool (decide_eq_true hb1))) ?_
   refine rk_seq ?_
   refine rk_reg ?_
   refine lw_v (.bool true) (dv_assign C) ?_
   refine lw_nil ?_
   refine rk_ret Tryd.func3 (v := .bool true) (res1 Tryd.results3 (rv_tmp rfl rfl)) ⟨_, rfl, ?_⟩
   exact ⟨rfl, E0⟩
 · refine rk_cf (T rfl (congrArg Value.bool (decide_eq_false hb1))) ?_
   refine rk_skip ?_
   refine rk_seq ?_
   refine rk_reg ?_
   refine lw_v (.string (bOf L)) (dv_move (T rfl rfl)) ?_
   have := E0.size; have hrl := (rdN_le (L := L)).1
   refine lw_e (oe_callf (vs := [.string (bOf L)]) co5 (ar1 (T rfl rfl)) (sReadLayer_ok (hL) (by first | omega | (simp; done) | (simp; omega))) ?_)
   rintro _ w10 ⟨Ar2, cr3, Sr4, Vr5, rfl, e11, hOv6, hRi7, hVv8⟩
   have := Below.fresh e11
   have E12 := below_ext E0 E0.size e11
   have hRR9 := rr_of hOv6 hRi7 (Nat.le_refl _) hVv8
   have hxn := (rdN_le (L := L)).2
   refine lw_v (.tuple #[.slice Ar2 (rdN L) cr3, .bool (decide (rdB L))]) (dv_move (T rfl rfl)) ?_
   refine lw_v (.slice Ar2 (rdN L) cr3) (dv_extract (vs := #[.slice Ar2 (rdN L) cr3, .bool (decide (rdB L))]) (T rfl rfl) rfl) ?_
   refine lw_v (.bool (decide (rdB L))) (dv_extract (vs := #[.slice Ar2 (rdN L) cr3, .bool (decide (rdB L))]) (T rfl rfl) rfl) ?_
   refine lw_v (.slice Ar2 (rdN L) cr3) (dv_assign (T rfl rfl)) ?_
   refine lw_v (.bool (decide (rdB L))) (dv_assign (T rfl rfl)) ?_
   refine lw_nil ?_
   refine rk_seq ?_
   refine rk_reg ?_
   refine lw_v (.string (bOf L)) (dv_move (T rfl rfl)) ?_
   have := E12.size; have hrl := (rdN_le (L := L)).1
   have h21 := (hb.ext e11)
   refine lw_e (oe_callf (vs := [.string (bOf L)]) co6 (ar1 (T rfl rfl)) (iReadLayer_ok (hL) (by first | omega | (simp; done) | (simp; omega)) h21) ?_)
   rintro _ w22 ⟨Ar13, cr14, Sr15, Vr16, rfl, e23, hOv17, hRi18, hVv19⟩
   have := Below.fresh e23
   have E24 := below_ext E12 E12.size e23
   have hRR20 := rr_of hOv17 hRi18 (Nat.le_refl _) hVv19
   have hxn := (rdN_le (L := L)).2
   refine lw_v (.tuple #[.slice Ar13 (rdN L) cr14, .bool (decide (rdB L))]) (dv_move (T rfl rfl)) ?_
   refine lw_v (.slice Ar13 (rdN L) cr14) (dv_extract (vs := #[.slice Ar13 (rdN L) cr14, .bool (decide (rdB L))]) (T rfl rfl) rfl) ?_
   refine lw_v (.bool (decide (rdB L))) (dv_extract (vs := #[.slice Ar13 (rdN L) cr14, .bool (decide (rdB L))]) (T rfl rfl) rfl) ?_
   refine lw_v (.slice Ar13 (rdN L) cr14) (dv_assign (T rfl rfl)) ?_
   refine lw_v (.bool (decide (rdB L))) (dv_assign (T rfl rfl)) ?_
   refine lw_nil ?_
   refine rk_seq ?_
   refine rk_seq ?_
   refine rk_reg ?_
   refine lw_v (.slice Ar13 (rdN L) cr14) (dv_move (T rfl rfl)) ?_
   refine lw_v (.slice Ar2 (rdN L) cr3) (dv_move (T rfl rfl)) ?_
   have h25 := (hRR9.ext e23)
   refine lw_e (oe_callf (vs := [.slice Ar13 (rdN L) cr14, .slice Ar2 (rdN L) cr3]) co7 (ar2 (T rfl rfl) (T rfl rfl)) (eqRingS_ok (c := cr14) (d := cr3) hRR20 (by omega) hxn h25) ?_)
   rintro _ w26 ⟨rfl, e27⟩
   have := Below.fresh e27
   have E28 := below_ext E24 E24.size e27
   refine lw_v (.bool false) (dv_not (b := true) (T rfl rfl)) ?_
   refine lw_v (.bool false) (dv_move (T rfl rfl)) ?_
   refine lw_vy (.bool (decide (rdB L))) (d := 28) rfl rfl (rfl) (dv_move (T rfl rfl)) ?_
   refine lw_vy (.bool (decide (rdB L))) (d := 28) rfl rfl (rfl) (dv_move (T rfl rfl)) ?_
   refine lw_vy (.bool ((decide (rdB L)) != (decide (rdB L)))) (d := 28) rfl rfl (rfl) (dv_neqb (a := decide (rdB L)) (b := decide (rdB L)) ub4 (T rfl rfl) (T rfl rfl)) ?_
   refine lw_v (.bool ((decide (rdB L)) != (decide (rdB L)))) (dv_pick_f (T rfl rfl) (T rfl rfl)) ?_
   refine lw_nil ?_
   rcases Bool.eq_false_or_eq_true ((decide (rdB L)) != (decide (rdB L))) with hb29 | hb29
   · refine rk_ct (T rfl (congrArg Value.bool hb29)) ?_
     refine rk_seq ?_
     refine rk_reg ?_
     refine lw_v (.bool false) (dv_assign C) ?_
     refine lw_nil ?_
     refine rk_ret Tryd.func3 (v := .bool false) (res1 Tryd.results3 (rv_tmp rfl rfl)) ⟨_, rfl, ?_⟩
     exact ⟨(by exfalso; first | contradiction | exact absurd rfl (by assumption) | omega | (simp at hb29; done)), E28⟩
   · refine rk_cf (T rfl (congrArg Value.bool hb29)) ?_
     refine rk_skip ?_
     refine rk_seq ?_
     refine rk_reg ?_
     refine lw_v (.int .i64 1) (dv_assign C) ?_
     refine lw_nil ?_
     refine rk_seq ?_
     refine rk_reg ?_
     refine lw_v (.slice Ar13 (rdN L) cr14) (dv_move (T rfl rfl)) ?_
     refine lw_v (.int .i64 1) (dv_move (T rfl rfl)) ?_
     have h30 := (hOv17.ext e27)
     have h31 := (hRi18.ext e27)
     have := (kR_rg (k := 1) (rdN_le (L := L)).2 (Nat.le_refl (rdN L))); have := E28.size
     refine lw_e (oe_callf (vs := [.slice Ar13 (rdN L) cr14, .int .i64 1]) co8 (ar2 (T rfl rfl) (T rfl rfl)) (markRingS_ok h30 h31 hVv19 (rdN_le (L := L)).2 (by omega) (by omega)) ?_)
     rintro _ w35 ⟨rfl, e36, hV32, hR33⟩
     have E37 := below_bl E28 (by omega) e36
     have hRR34 := rr_of hV32 hR33 (Nat.le_refl _) hVv19
     refine lw_v (.int .i64 (kR 1 ((pcN L)) (rdN L))) (dv_assign (T rfl rfl)) ?_
     refine lw_nil ?_
     refine rk_seq ?_
     refine rk_reg ?_
     refine lw_v (.int .i64 1) (dv_assign C) ?_
     refine lw_nil ?_
     refine rk_seq ?_
     refine rk_reg ?_
     refine lw_v (.slice Ar13 (rdN L) cr14) (dv_move (T rfl rfl)) ?_
     refine lw_v (.int .i64 1) (dv_move (T rfl rfl)) ?_
     refine lw_e (oe_callf (vs := [.slice Ar13 (rdN L) cr14, .int .i64 1]) co9 (ar2 (T rfl rfl) (T rfl rfl)) (heldRingS_ok (c := cr14) hRR34 (by omega) (rdN_le (L := L)).2 (fun _ _ => rfl) (by omega)) ?_)
     rintro _ w38 ⟨rfl, e39⟩
     have := Below.fresh e39
     have E40 := below_ext E37 E37.size e39
     refine lw_v (.int .i64 (kR 1 ((pcN L)) (rdN L))) (dv_assign (T rfl rfl)) ?_
     refine lw_nil ?_
     refine rk_seq ?_
     refine rk_seq ?_
     refine rk_reg ?_
     refine lw_v (.int .i64 (kR 1 ((pcN L)) (rdN L))) (dv_move (T rfl rfl)) ?_
     refine lw_v (.bool (decide ((kR 1 ((pcN L)) (rdN L)) < 0))) (dv_lss (a := kR 1 ((pcN L)) (rdN L)) (b := 0) (T rfl rfl) C) ?_
     refine lw_nil ?_
     by_cases hb41 : (kR 1 ((pcN L)) (rdN L)) < 0
     · refine rk_ct (T rfl (congrArg Value.bool (decide_eq_true hb41))) ?_
       refine rk_seq ?_
       refine rk_reg ?_
       refine lw_v (.bool false) (dv_assign C) ?_
       refine lw_nil ?_
       refine rk_ret Tryd.func3 (v := .bool false) (res1 Tryd.results3 (rv_tmp rfl rfl)) ⟨_, rfl, ?_⟩
       exact ⟨(by exfalso; first | contradiction | exact absurd rfl (by assumption) | omega | (simp at hb29; done)), E40⟩
     · refine rk_cf (T rfl (congrArg Value.bool (decide_eq_false hb41))) ?_
       refine rk_skip ?_
       refine rk_seq ?_
       refine rk_seq ?_
       refine rk_reg ?_
       refine lw_v (.int .i64 (kR 1 ((pcN L)) (rdN L))) (dv_move (T rfl rfl)) ?_
       refine lw_v (.int .i64 (kR 1 ((pcN L)) (rdN L))) (dv_move (T rfl rfl)) ?_
       refine lw_v (.bool (decide ((kR 1 ((pcN L)) (rdN L)) ≠ (kR 1 ((pcN L)) (rdN L))))) (dv_neq (a := kR 1 ((pcN L)) (rdN L)) (b := kR 1 ((pcN L)) (rdN L)) (T rfl rfl) (T rfl rfl)) ?_
       refine lw_nil ?_
       by_cases hb42 : (kR 1 ((pcN L)) (rdN L)) ≠ (kR 1 ((pcN L)) (rdN L))
       · refine rk_ct (T rfl (congrArg Value.bool (decide_eq_true hb42))) ?_
         refine rk_seq ?_
         refine rk_reg ?_
         refine lw_v (.bool false) (dv_assign C) ?_
         refine lw_nil ?_
         refine rk_ret Tryd.func3 (v := .bool false) (res1 Tryd.results3 (rv_tmp rfl rfl)) ⟨_, rfl, ?_⟩
         exact ⟨(by exfalso; first | contradiction | exact absurd rfl (by assumption) | omega | (simp at hb29; done)), E40⟩
       · refine rk_cf (T rfl (congrArg Value.bool (decide_eq_false hb42))) ?_
         refine rk_skip ?_
         refine rk_seq ?_
         refine rk_reg ?_
         refine lw_v (.string (bOf L)) (dv_move (T rfl rfl)) ?_
         have := E40.size; have hrl := (rdN_le (L := L)).1
         have h51 := hb.ext E40
         refine lw_e (oe_callf (vs := [.string (bOf L)]) co6 (ar1 (T rfl rfl)) (iReadLayer_ok (hL) (by first | omega | (simp; done) | (simp; omega)) h51) ?_)
         rintro _ w52 ⟨Ar43, cr44, Sr45, Vr46, rfl, e53, hOv47, hRi48, hVv49⟩
         have := Below.fresh e53
         have E54 := below_ext E40 E40.size e53
         have hRR50 := rr_of hOv47 hRi48 (Nat.le_refl _) hVv49
         have hxn := (rdN_le (L := L)).2
         refine lw_v (.tuple #[.slice Ar43 (rdN L) cr44, .bool (decide (rdB L))]) (dv_move (T rfl rfl)) ?_
         refine lw_v (.slice Ar43 (rdN L) cr44) (dv_extract (vs := #[.slice Ar43 (rdN L) cr44, .bool (decide (rdB L))]) (T rfl rfl) rfl) ?_
         refine lw_v (.bool (decide (rdB L))) (dv_extract (vs := #[.slice Ar43 (rdN L) cr44, .bool (decide (rdB L))]) (T rfl rfl) rfl) ?_
         refine lw_v (.slice Ar43 (rdN L) cr44) (dv_assign (T rfl rfl)) ?_
         refine lw_v (.bool (decide (rdB L))) (dv_assign (T rfl rfl)) ?_
         refine lw_nil ?_
         refine rk_seq ?_
         refine rk_seq ?_
         refine rk_reg ?_
         refine lw_v (.slice Ar43 (rdN L) cr44) (dv_move (T rfl rfl)) ?_
         refine lw_v (.slice Ar2 (rdN L) cr3) (dv_move (T rfl rfl)) ?_
         have h55 := ((((h25.ext e27).bl e36 (by omega)).ext e39).ext e53)
         refine lw_e (oe_callf (vs := [.slice Ar43 (rdN L) cr44, .slice Ar2 (rdN L) cr3]) co7 (ar2 (T rfl rfl) (T rfl rfl)) (eqRingS_ok (c := cr44) (d := cr3) hRR50 (by omega) hxn h55) ?_)
         rintro _ w56 ⟨rfl, e57⟩
         have := Below.fresh e57
         have E58 := below_ext E54 E54.size e57
         refine lw_v (.bool false) (dv_not (b := true) (T rfl rfl)) ?_
         refine lw_v (.bool false) (dv_move (T rfl rfl)) ?_
         refine lw_vy (.bool (decide (rdB L))) (d := 53) rfl rfl (rfl) (dv_move (T rfl rfl)) ?_
         refine lw_vy (.bool (decide (rdB L))) (d := 53) rfl rfl (rfl) (dv_move (T rfl rfl)) ?_
         refine lw_vy (.bool ((decide (rdB L)) != (decide (rdB L)))) (d := 53) rfl rfl (rfl) (dv_neqb (a := decide (rdB L)) (b := decide (rdB L)) ub4 (T rfl rfl) (T rfl rfl)) ?_
         refine lw_v (.bool ((decide (rdB L)) != (decide (rdB L)))) (dv_pick_f (T rfl rfl) (T rfl rfl)) ?_
         refine lw_nil ?_
         refine rk_cf (T rfl (congrArg Value.bool hb29)) ?_
         refine rk_skip ?_
         refine rk_seq ?_
         refine rk_reg ?_
         refine lw_v (.int .i64 1) (dv_assign C) ?_
         refine lw_nil ?_
         refine rk_seq ?_
         refine rk_reg ?_
         refine lw_v (.slice Ar13 (rdN L) cr14) (dv_move (T rfl rfl)) ?_
         refine lw_v (.int .i64 1) (dv_move (T rfl rfl)) ?_
         have h59 := (((hRR34.ext e39).ext e53).ext e57)
         refine lw_e (oe_callf (vs := [.slice Ar13 (rdN L) cr14, .int .i64 1]) co9 (ar2 (T rfl rfl) (T rfl rfl)) (heldRingS_ok (c := cr14) h59 (by omega) (rdN_le (L := L)).2 (fun _ _ => rfl) (by omega)) ?_)
         rintro _ w60 ⟨rfl, e61⟩
         have := Below.fresh e61
         have E62 := below_ext E58 E58.size e61
         refine lw_v (.int .i64 (kR 1 ((pcN L)) (rdN L))) (dv_assign (T rfl rfl)) ?_
         refine lw_nil ?_
         refine rk_seq ?_
         refine rk_seq ?_
         refine rk_reg ?_
         refine lw_v (.int .i64 (kR 1 ((pcN L)) (rdN L))) (dv_move (T rfl rfl)) ?_
         refine lw_v (.bool (decide ((kR 1 ((pcN L)) (rdN L)) < 0))) (dv_lss (a := kR 1 ((pcN L)) (rdN L)) (b := 0) (T rfl rfl) C) ?_
         refine lw_nil ?_
         refine rk_cf (T rfl (congrArg Value.bool (decide_eq_false hb41))) ?_
         refine rk_skip ?_
         refine rk_seq ?_
         refine rk_seq ?_
         refine rk_reg ?_
         refine lw_v (.int .i64 (kR 1 ((pcN L)) (rdN L))) (dv_move (T rfl rfl)) ?_
         refine lw_v (.int .i64 (kR 1 ((pcN L)) (rdN L))) (dv_move (T rfl rfl)) ?_
         refine lw_v (.bool (decide ((kR 1 ((pcN L)) (rdN L)) ≠ (kR 1 ((pcN L)) (rdN L))))) (dv_neq (a := kR 1 ((pcN L)) (rdN L)) (b := kR 1 ((pcN L)) (rdN L)) (T rfl rfl) (T rfl rfl)) ?_
         refine lw_nil ?_
         refine rk_cf (T rfl (congrArg Value.bool (decide_eq_false hb42))) ?_
         refine rk_skip ?_
         refine rk_seq ?_
         refine rk_reg ?_
         refine lw_v (.bool true) (dv_assign C) ?_
         refine lw_nil ?_
         refine rk_ret Tryd.func3 (v := .bool true) (res1 Tryd.results3 (rv_tmp rfl rfl)) ⟨_, rfl, ?_⟩
         exact ⟨rfl, E62⟩
end Go.Proofs.YtmbpomcbdopgnaaDoor.W
