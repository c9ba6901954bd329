/- Wide numbers as numbers, common divisors, ratios, points: plain mathematics. -/
import Derived.Test.YtpnjkjahfklfnaaMa8
import Derived.Test.YtpnjkjahfklfnaaMa5
import Derived.Test.YtpnjkjahfklfnaaFw9
set_option linter.unusedVariables false
set_option linter.unusedSimpArgs false
namespace Go.Proofs.Ytpnjkjahfklfnaa.Fw
/-- A number, or 0. -/
def pkz (S : Prop) [Decidable S] (z : Int) : Int := if S then z else 0
theorem pkz_t {S : Prop} [Decidable S] {z : Int} (h : S) : pkz S z = z := if_pos h
theorem pkz_f {S : Prop} [Decidable S] {z : Int} (h : ¬ S) : pkz S z = 0 := if_neg h
theorem fits_pkz {S : Prop} [Decidable S] {z : Int} (h : S → fits z) : fits (pkz S z) := by
  unfold pkz; split
  · exact h ‹_›
  · exact ⟨by decide, by decide⟩
theorem w0 : wv3 0 = 0 ∧ wv2 0 = 0 ∧ wv1 0 = 0 ∧ wv0 0 = 0 := by decide
def wsn (z : Int) : List Int := [wv3 z, wv2 z, wv1 z, wv0 z]
/-- Words and numbers. -/
theorem words_z {a3 a2 a1 a0 : Int} (h3 : 0 ≤ a3 ∧ a3 < 18446744073709551616) (h2 : 0 ≤ a2 ∧ a2 < 18446744073709551616) (h1 : 0 ≤ a1 ∧ a1 < 18446744073709551616) (h0 : 0 ≤ a0 ∧ a0 < 18446744073709551616) :
    ∃ z, fits z ∧ a3 = wv3 z ∧ a2 = wv2 z ∧ a1 = wv1 z ∧ a0 = wv0 z := by
  refine ⟨wz a3 a2 a1 a0, ?_⟩
  have hf : fits (wz a3 a2 a1 a0) := by unfold fits wz u256; split <;> omega
  refine ⟨hf, ?_⟩
  unfold wv3 wv2 wv1 wv0
  rw [if_pos hf, if_pos hf, if_pos hf, if_pos hf]
  unfold wz u256
  split <;> omega
theorem wv_inj {x y : Int} (hx : fits x) (hy : fits y) (h3 : wv3 x = wv3 y) (h2 : wv2 x = wv2 y) (h1 : wv1 x = wv1 y) (h0 : wv0 x = wv0 y) : x = y := by
  rw [← wz_w hx, ← wz_w hy, h3, h2, h1, h0]
theorem wv_eq {x y : Int} (hx : fits x) (hy : fits y) : (wv3 x = wv3 y ∧ wv2 x = wv2 y ∧ wv1 x = wv1 y ∧ wv0 x = wv0 y) ↔ x = y :=
  ⟨fun h => wv_inj hx hy h.1 h.2.1 h.2.2.1 h.2.2.2, fun h => by subst h; simp⟩
theorem wl_eq {x y : Int} (hx : fits x) (hy : fits y) : ([wv3 x, wv2 x, wv1 x, wv0 x] : List Int) = [wv3 y, wv2 y, wv1 y, wv0 y] ↔ x = y := by
  simp only [List.cons.injEq, and_true]
  exact wv_eq hx hy
theorem wl_zero {x : Int} (hx : fits x) : ([wv3 x, wv2 x, wv1 x, wv0 x] : List Int) = [0, 0, 0, 0] ↔ x = 0 := by
  have h := wl_eq (y := 0) hx ⟨by decide, by decide⟩
  rw [w0.1, w0.2.1, w0.2.2.1, w0.2.2.2] at h
  exact h
theorem wf3 {S : Prop} [Decidable S] {z : Int} (h : ¬ S) : (0 : Int) = wv3 (pkz S z) := by rw [pkz_f h, w0.1]
theorem wf2 {S : Prop} [Decidable S] {z : Int} (h : ¬ S) : (0 : Int) = wv2 (pkz S z) := by rw [pkz_f h, w0.2.1]
theorem wf1 {S : Prop} [Decidable S] {z : Int} (h : ¬ S) : (0 : Int) = wv1 (pkz S z) := by rw [pkz_f h, w0.2.2.1]
theorem wf0 {S : Prop} [Decidable S] {z : Int} (h : ¬ S) : (0 : Int) = wv0 (pkz S z) := by rw [pkz_f h, w0.2.2.2]
theorem nf3 {z : Int} (h : ¬ fits z) : wv3 z = 0 := if_neg h
theorem nf2 {z : Int} (h : ¬ fits z) : wv2 z = 0 := if_neg h
theorem nf1 {z : Int} (h : ¬ fits z) : wv1 z = 0 := if_neg h
theorem nf0 {z : Int} (h : ¬ fits z) : wv0 z = 0 := if_neg h
/-- A number that is told, or 0: its words. -/
theorem wp3 {z : Int} : wv3 z = wv3 (pkz (fits z) z) := by
  by_cases h : fits z
  · rw [pkz_t h]
  · rw [pkz_f h, nf3 h, w0.1]
theorem wp2 {z : Int} : wv2 z = wv2 (pkz (fits z) z) := by
  by_cases h : fits z
  · rw [pkz_t h]
  · rw [pkz_f h, nf2 h, w0.2.1]
theorem wp1 {z : Int} : wv1 z = wv1 (pkz (fits z) z) := by
  by_cases h : fits z
  · rw [pkz_t h]
  · rw [pkz_f h, nf1 h, w0.2.2.1]
theorem wp0 {z : Int} : wv0 z = wv0 (pkz (fits z) z) := by
  by_cases h : fits z
  · rw [pkz_t h]
  · rw [pkz_f h, nf0 h, w0.2.2.2]
theorem fits_pk {z : Int} : fits (pkz (fits z) z) := fits_pkz fun h => h
def dOk (x y : Int) : Prop := y ≠ 0 ∧ fits (x / y) ∧ fits (x % y)
instance (x y : Int) : Decidable (dOk x y) := by unfold dOk; infer_instance
theorem fits0 : fits 0 := ⟨by decide, by decide⟩
theorem fits_natAbs {z : Int} (h : fits z) : z.natAbs < 2 ^ 256 := by
  have e : (2 : Nat) ^ 256 = 115792089237316195423570985008687907853269984665640564039457584007913129639936 := by decide
  unfold fits at h; omega
/-! ### Common divisors, ratios -/
def gI (x y : Int) : Int := ((Int.gcd x y : Nat) : Int)
theorem gI_nonneg (x y : Int) : 0 ≤ gI x y := Int.natCast_nonneg _
theorem gI_pos {x y : Int} (h : y ≠ 0) : 0 < gI x y := by
  have : 0 < Int.gcd x y := Int.gcd_pos_of_ne_zero_right _ h
  unfold gI; omega
theorem gI_dl (x y : Int) : gI x y ∣ x := Int.gcd_dvd_left ..
theorem gI_dr (x y : Int) : gI x y ∣ y := Int.gcd_dvd_right ..
theorem gI_step {x y : Int} : gI y (x % y) = gI x y := gcd_step
theorem gI_zero (x : Int) : gI x 0 = (x.natAbs : Int) := by simp [gI]
theorem gI_zl (x : Int) : gI 0 x = (x.natAbs : Int) := by simp [gI]
theorem gI_abs (x y : Int) : gI (x.natAbs : Int) (y.natAbs : Int) = gI x y := by simp [gI, Int.gcd]
theorem gI_absr (x y : Int) : gI x (y.natAbs : Int) = gI x y := by simp [gI, Int.gcd]
theorem gI_neg (x y : Int) : gI (-x) (-y) = gI x y := by simp [gI, Int.gcd]
theorem gI_comm (x y : Int) : gI x y = gI y x := by unfold gI; rw [Int.gcd_comm]
theorem gI_assoc (x y z : Int) : gI (gI x y) z = gI x (gI y z) := by unfold gI; rw [Int.gcd_assoc]
theorem gI_le {x y : Int} {s : Nat} (h : x.natAbs < 2 ^ s) (h2 : y.natAbs < 2 ^ s) : (gI x y).natAbs < 2 ^ s := by
  by_cases hy : y = 0
  · subst hy; rw [gI_zero]; simpa using h
  · have h3 : Int.gcd x y ∣ y.natAbs := Nat.gcd_dvd_right _ _
    have := Nat.le_of_dvd (by omega) h3
    show (Int.gcd x y : Int).natAbs < _
    omega
def rUp (u d : Int) : Int := (if d < 0 then -u else u) / gI u d
def rDn (u d : Int) : Int := (if d < 0 then -d else d) / gI u d
theorem ediv_neg_of {x g : Int} (h : g ∣ x) : (-x) / g = -(x / g) := Int.neg_ediv_of_dvd h
theorem low_sign {u d : Int} (h : d ≠ 0) : d / gI u d < 0 ↔ d < 0 := by
  have hg := gI_pos (x := u) h
  obtain ⟨t, ht⟩ := gI_dr u d
  have e : d / gI u d = t := by rw [ht, show gI u (gI u d * t) = gI u d by rw [← ht]]; exact Int.mul_ediv_cancel_left _ (Int.ne_of_gt hg)
  rw [e]
  constructor
  · intro h1; rw [ht]; exact Int.mul_neg_of_pos_of_neg hg h1
  · intro h1
    rcases Int.lt_or_le t 0 with h2 | h2
    · exact h2
    · have := Int.mul_nonneg (Int.le_of_lt hg) h2
      omega
theorem low_up {u d : Int} (h : d ≠ 0) : (if d / gI u d < 0 then -(u / gI u d) else u / gI u d) = rUp u d := by
  unfold rUp
  by_cases hd : d < 0
  · rw [if_pos ((low_sign h).2 hd), if_pos hd, ediv_neg_of (gI_dl u d)]
  · rw [if_neg (fun hh => hd ((low_sign h).1 hh)), if_neg hd]
theorem low_dn {u d : Int} (h : d ≠ 0) : (if d / gI u d < 0 then -(d / gI u d) else d / gI u d) = rDn u d := by
  unfold rDn
  by_cases hd : d < 0
  · rw [if_pos ((low_sign h).2 hd), if_pos hd, ediv_neg_of (gI_dr u d)]
  · rw [if_neg (fun hh => hd ((low_sign h).1 hh)), if_neg hd]
theorem mk_gI (u d : Int) : gI (if d < 0 then -u else u) (if d < 0 then -d else d) = gI u d := by
  split
  · exact gI_neg u d
  · rfl
theorem natAbs_div_lt {x y : Int} {s : Nat} (h : x.natAbs < 2 ^ s) : (x / y).natAbs < 2 ^ s := Nat.lt_of_le_of_lt (Int.natAbs_ediv_le_natAbs x y) h
theorem natAbs_mod_lt {x y : Int} {s : Nat} (h : y.natAbs < 2 ^ s) (h0 : y ≠ 0) : (x % y).natAbs < 2 ^ s := by
  have h1 := Int.emod_nonneg x h0
  have h2 := Int.emod_lt x h0
  omega
theorem rUp_lt {u d : Int} {s : Nat} (h : u.natAbs < 2 ^ s) : (rUp u d).natAbs < 2 ^ s := natAbs_div_lt (by split <;> omega)
theorem rDn_lt {u d : Int} {s : Nat} (h : d.natAbs < 2 ^ s) : (rDn u d).natAbs < 2 ^ s := natAbs_div_lt (by split <;> omega)
def rFit (u d : Int) : Prop := d ≠ 0 ∧ fits (rUp u d) ∧ fits (rDn u d)
instance (u d : Int) : Decidable (rFit u d) := by unfold rFit; infer_instance
def rOk (u d : Int) : Prop := 0 < d ∧ gI u d = 1
instance (u d : Int) : Decidable (rOk u d) := by unfold rOk; infer_instance
theorem rUp_ok {u d : Int} (h : rOk u d) : rUp u d = u := by unfold rUp; rw [h.2, if_neg (by have := h.1; omega), Int.ediv_one]
theorem rDn_ok {u d : Int} (h : rOk u d) : rDn u d = d := by unfold rDn; rw [h.2, if_neg (by have := h.1; omega), Int.ediv_one]
/-! ### Points -/
def gI3 (x y w : Int) : Int := gI (gI x y) w
def pPt (x y w z : Int) : Int := (if w < 0 then -z else z) / gI3 x y w
theorem gI3_pos {x y w : Int} (h : w ≠ 0) : 0 < gI3 x y w := gI_pos h
theorem gI3_dx (x y w : Int) : gI3 x y w ∣ x := Int.dvd_trans (gI_dl _ _) (gI_dl _ _)
theorem gI3_dy (x y w : Int) : gI3 x y w ∣ y := Int.dvd_trans (gI_dl _ _) (gI_dr _ _)
theorem gI3_dw (x y w : Int) : gI3 x y w ∣ w := gI_dr _ _
theorem pt_neg {x y w z : Int} (hw : w < 0) (hz : gI3 x y w ∣ z) : z / -gI3 x y w = pPt x y w z := by unfold pPt; rw [if_pos hw, Int.ediv_neg, ediv_neg_of hz]
theorem pt_pos {x y w z : Int} (hw : ¬ w < 0) : z / gI3 x y w = pPt x y w z := by unfold pPt; rw [if_neg hw]
theorem gI_negl (x y : Int) : gI (-x) y = gI x y := by simp [gI, Int.gcd]
theorem gI_negr (x y : Int) : gI x (-y) = gI x y := by simp [gI, Int.gcd]
theorem mk_gI3 (x y w : Int) : gI (gI (if w < 0 then -x else x) (if w < 0 then -y else y)) (if w < 0 then -w else w) = gI3 x y w := by
  unfold gI3; split
  · rw [gI_neg, gI_negr]
  · rfl
theorem pPt_lt {x y w z : Int} {s : Nat} (h : z.natAbs < 2 ^ s) : (pPt x y w z).natAbs < 2 ^ s := natAbs_div_lt (by split <;> omega)
end Go.Proofs.Ytpnjkjahfklfnaa.Fw
