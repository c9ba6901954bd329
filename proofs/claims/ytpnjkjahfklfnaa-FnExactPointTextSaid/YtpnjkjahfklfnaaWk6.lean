/- Wk6: walks, written by a program of this session. -/
import Derived.Test.YtpnjkjahfklfnaaWk5
import Derived.Test.YtpnjkjahfklfnaaSh
set_option linter.unusedVariables false
set_option linter.unusedSimpArgs false
namespace Go.Proofs.Ytpnjkjahfklfnaa.W
open Go Go.RowKit Go.Proofs.Ytpnjkjahfklfnaa.Fw
attribute [local irreducible] RunK LW AW DV OE Ct
theorem co108 : callOk Try.prog 108 = true := by kernel_rfl
theorem lz_ok {w : World} {x : Int} (h : 0 ≤ x ∧ x < 18446744073709551616) : Ct Try.prog 108 [.int .u64 x] w fun v w1 => v = .int .i64 (64 - (nbits x.toNat : Int)) ∧ Ext w w1 := by
  unfold Ct
  exact Calls.mono (Try.bits_LeadingZeros64 x w h.1 (by omega)) fun e w' ⟨he, hw⟩ => ⟨_, he, by rw [nbits_bitLen (by omega)], by subst hw; exact Below.refl _ _⟩
set_option maxHeartbeats 1000000 in
theorem nsize_ok {w : World} {neg : Bool} {A : Option Addr} {c : Nat} {xs : List Int} (hx : Wd w 22 .u64 A xs) (hc : xs.length ≤ c) (ox : okW (2 ^ 64) xs) (cx : canon xs) (lx : xs.length ≤ 1000000) : Ct Try.prog 74 [.agg #[.bool neg, .slice A (xs.length) c]] w fun v w1 => v = .int .i64 (nbits (valB (2 ^ 64) xs).toNat : Int) ∧ Ext w w1 := by
  refine ct_run (n := 19) Try.func74 rfl Try.ntmps74 rfl ?_
  have E0 : Below w.heap.size w w := Below.refl _ _
  have bn := fun h => nbits_top ox h (canon_top ox cx h)
  have bg := okW.getD ox (by decide) (xs.length - 1)
  have bl := nbits_len ox
  have bm : nbits (xs.getD (xs.length - 1) 0).toNat ≤ 64 := nbits_le_iff.2 (by omega)
  refine rk_seq ?_
  refine rk_reg ?_
  refine lw_e (oe_box (v := .agg #[.bool neg, .slice A (xs.length) c]) (cs := #[.bool neg, .slice A (xs.length) c]) (T rfl rfl) rfl ?_)
  intro b1 w2 n3
  have N4 : w.heap.size ≤ b1 := n3.eq ▸ E0.size
  have E5 := below_ext E0 E0.size n3.ext
  refine lw_v (.int .i64 0) (dv_assign C) ?_
  refine lw_nil ?_
  refine rk_seq ?_
  refine rk_reg ?_
  refine lw_v (.pointer (some ⟨b1, 1, none⟩)) (dv_fieldAddr (a := ⟨b1, 0, none⟩) (a' := ⟨b1, 1, none⟩) fo69_1 (T rfl rfl) rfl) ?_
  refine lw_v (.slice A (xs.length) c) (dv_load1 (b := b1) (o := 1) agt67 (T rfl rfl) n3.blk rfl) ?_
  refine lw_v (.int .i64 ((xs.length : Int))) (dv_len (ad := A) (l := xs.length) (c := c) us67 (T rfl rfl)) ?_
  refine lw_v (.int .i64 ((xs.length : Int))) (dv_assign (T rfl rfl)) ?_
  refine lw_nil ?_
  refine rk_seq ?_
  refine rk_seq ?_
  refine rk_reg ?_
  refine lw_v (.int .i64 ((xs.length : Int))) (dv_move (T rfl rfl)) ?_
  refine lw_v (.bool (decide (((xs.length : Int)) = 0))) (dv_eql (a := (xs.length : Int)) (b := 0) (T rfl rfl) C) ?_
  refine lw_nil ?_
  by_cases hb6 : ((xs.length : Int)) = 0
  · -- T
    refine rk_ct (T rfl (congrArg Value.bool (decide_eq_true hb6))) ?_
    refine rk_seq ?_
    refine rk_reg ?_
    refine lw_v (.int .i64 0) (dv_assign C) ?_
    refine lw_nil ?_
    refine rk_ret Try.func74 (v := .int .i64 0) (res1 Try.results74 (rv_tmp rfl rfl)) ⟨_, rfl, ?_⟩
    exact ⟨vi (by have h0 : xs = [] := List.eq_nil_of_length_eq_zero (by omega); simp [h0, valB, nbits]), E5⟩
  · -- F
    refine rk_cf (T rfl (congrArg Value.bool (decide_eq_false hb6))) ?_
    refine rk_skip ?_
    refine rk_seq ?_
    refine rk_reg ?_
    refine lw_v (.int .i64 ((xs.length : Int))) (dv_move (T rfl rfl)) ?_
    refine lw_v (.int .i64 (64 * ((xs.length : Int)))) (dv_mul (a := 64) (b := (xs.length : Int)) (z := 64 * ((xs.length : Int))) C (T rfl rfl) (wr_i64 (by omega) (by omega))) ?_
    refine lw_v (.pointer (some ⟨b1, 1, none⟩)) (dv_fieldAddr (a := ⟨b1, 0, none⟩) (a' := ⟨b1, 1, none⟩) fo69_1 (T rfl rfl) rfl) ?_
    refine lw_v (.slice A (xs.length) c) (dv_load1 (b := b1) (o := 1) agt67 (T rfl rfl) n3.blk rfl) ?_
    refine lw_v (.int .i64 ((xs.length : Int))) (dv_move (T rfl rfl)) ?_
    refine lw_v (.int .i64 (((xs.length : Int)) - 1)) (dv_sub (a := (xs.length : Int)) (b := 1) (z := ((xs.length : Int)) - 1) (T rfl rfl) C (wr_i64 (by omega) (by omega))) ?_
    have h7 := (hx.ext n3.ext)
    obtain ⟨g8, o9, rfl⟩ := Wd.at h7 (by first | omega | (simp; done) | (simp; omega))
    refine lw_v (.pointer (some ⟨g8, o9 + ((xs.length) - 1), none⟩)) (dv_indexW (g := g8) (o := o9) (l := xs.length) (c := c) (i := ((xs.length) - 1)) (j := ((xs.length : Int)) - 1) us67 sz22 (T rfl rfl) (T rfl rfl) (by omega) (by first | omega | (simp; done) | (simp; omega))) ?_
    refine lw_v (.int .u64 (xs.getD (((xs.length) - 1)) 0)) (dv_load agt22 (T rfl rfl) (Wd.cell h7 (by first | omega | (simp; done) | (simp; omega)))) ?_
    refine lw_e (oe_callf (vs := [.int .u64 (xs.getD (((xs.length) - 1)) 0)]) co108 (ar1 (T rfl rfl)) (lz_ok (by omega)) ?_)
    rintro _ w10 ⟨rfl, e11⟩
    have E12 := below_ext E5 E5.size e11
    refine lw_v (.int .i64 ((64 * ((xs.length : Int))) - (64 - (nbits (xs.getD (((xs.length) - 1)) 0).toNat : Int)))) (dv_sub (a := 64 * ((xs.length : Int))) (b := 64 - (nbits (xs.getD (((xs.length) - 1)) 0).toNat : Int)) (z := (64 * ((xs.length : Int))) - (64 - (nbits (xs.getD (((xs.length) - 1)) 0).toNat : Int))) (T rfl rfl) (T rfl rfl) (wr_i64 (by omega) (by omega))) ?_
    refine lw_v (.int .i64 ((64 * ((xs.length : Int))) - (64 - (nbits (xs.getD (((xs.length) - 1)) 0).toNat : Int)))) (dv_assign (T rfl rfl)) ?_
    refine lw_nil ?_
    refine rk_ret Try.func74 (v := .int .i64 ((64 * ((xs.length : Int))) - (64 - (nbits (xs.getD (((xs.length) - 1)) 0).toNat : Int)))) (res1 Try.results74 (rv_tmp rfl rfl)) ⟨_, rfl, ?_⟩
    exact ⟨vi (by have := bn (by omega); omega), E12⟩

theorem nsize_num {w : World} {neg : Bool} {A : Option Addr} {l c s : Nat} {z : Int} (h : Num 64 22 .u64 w neg A l c z s) (hl : l ≤ 1000000) : Ct Try.prog 74 [.agg #[.bool neg, .slice A l c]] w fun v w1 => v = .int .i64 (nbits z.natAbs : Int) ∧ Ext w w1 := by
  have e : (valB (2 ^ 64) []).toNat = 0 := rfl
  obtain ⟨xs, rfl, hc, hw, ho, hk, hv⟩ := h.wc
  have := nsize_ok (neg := neg) hw hc ho hk hl
  rw [← hv, Int.toNat_natCast] at this
  exact this

end Go.Proofs.Ytpnjkjahfklfnaa.W
