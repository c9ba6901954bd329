/- Two words by one, in half words: plain mathematics. -/
import Derived.Test.YtpnjkjahfklfnaaMa11
set_option linter.unusedVariables false
set_option linter.unusedSimpArgs false
namespace Go.Proofs.Ytpnjkjahfklfnaa.Fw
/-! ### Two words by one, in half words (N1 by Y, with Y = v1 * 2^32 + v0) -/
/-- The first guess of a half word. -/
theorem half_guess {U u Y : Int} (hY : 9223372036854775808 ≤ Y) (hYl : Y < 18446744073709551616) (hU0 : 0 ≤ U) (hU : U < Y) (hu0 : 0 ≤ u) (hu : u < 4294967296) :
    0 ≤ U / (Y / 4294967296) ∧ U / (Y / 4294967296) ≤ 4294967297 ∧ 0 ≤ U - U / (Y / 4294967296) * (Y / 4294967296) ∧ U - U / (Y / 4294967296) * (Y / 4294967296) < Y / 4294967296 ∧
    U * 4294967296 + u < (U / (Y / 4294967296) + 1) * Y := by
  have hv : 2147483648 ≤ Y / 4294967296 := by omega
  have hv2 : Y / 4294967296 < 4294967296 := by omega
  have hYe : Y = Y / 4294967296 * 4294967296 + Y % 4294967296 := by omega
  generalize hV : Y / 4294967296 = v at *
  have d := Int.mul_ediv_add_emod U v
  have d0 := Int.emod_nonneg U (show v ≠ 0 by omega)
  have d1 := Int.emod_lt_of_pos U (show 0 < v by omega)
  have q0 : 0 ≤ U / v := Int.ediv_nonneg hU0 (by omega)
  generalize U / v = q at *
  have hc : q * v = v * q := Int.mul_comm _ _
  refine ⟨q0, ?_, by omega, by omega, ?_⟩
  · rcases Int.lt_or_le 4294967297 q with h | h
    · exfalso
      have h1 : v * 4294967298 ≤ v * q := Int.mul_le_mul_of_nonneg_left (by omega) (by omega)
      omega
    · exact h
  · have h1 : U ≤ v * q + (v - 1) := by omega
    have h2 : (q + 1) * Y = (v * q + v) * 4294967296 + (q + 1) * (Y % 4294967296) := by
      conv => lhs; rw [hYe]
      grind
    have h3 : 0 ≤ (q + 1) * (Y % 4294967296) := Int.mul_nonneg (by omega) (by omega)
    rw [h2]; omega
/-- A guess that is too high is one too high at least. -/
theorem half_less {U u Y q r : Int} (hq : q * (Y / 4294967296) + r = U) (hgt : 4294967296 ≤ q ∨ r * 4294967296 + u < q * (Y % 4294967296)) (hU : U < Y) (hu : u < 4294967296) (hY : 0 < Y) : U * 4294967296 + u < (q - 1 + 1) * Y := by
  have e : q * Y = q * (Y / 4294967296) * 4294967296 + q * (Y % 4294967296) := by
    have hYe : Y = Y / 4294967296 * 4294967296 + Y % 4294967296 := by omega
    conv => lhs; rw [hYe]
    grind
  rw [show q - 1 + 1 = q by omega]
  rcases hgt with h | h
  · have h1 : 4294967296 * Y ≤ q * Y := Int.mul_le_mul_of_nonneg_right h (by omega)
    omega
  · rw [e]
    generalize q * (Y / 4294967296) = a at *
    generalize q * (Y % 4294967296) = b at *
    omega
/-- It is not too high. -/
theorem half_ok {U u Y q r : Int} (hq : q * (Y / 4294967296) + r = U) (hle : q * (Y % 4294967296) ≤ r * 4294967296 + u) : q * Y ≤ U * 4294967296 + u := by
  have e : q * Y = q * (Y / 4294967296) * 4294967296 + q * (Y % 4294967296) := by
    have hYe : Y = Y / 4294967296 * 4294967296 + Y % 4294967296 := by omega
    conv => lhs; rw [hYe]
    grind
  rw [e]
  generalize q * (Y / 4294967296) = a at *
  generalize q * (Y % 4294967296) = b at *
  omega
theorem half_ok2 {U u Y q r : Int} (hq : q * (Y / 4294967296) + r = U) (hr : 4294967296 ≤ r) (h0 : 0 ≤ q) (hql : q ≤ 4294967296) (hu : 0 ≤ u) : q * Y ≤ U * 4294967296 + u := by
  refine half_ok hq ?_
  have h1 : q * (Y % 4294967296) ≤ 4294967296 * 4294967295 := Int.mul_le_mul hql (by omega) (by omega) (by decide)
  omega
/-- The half word is below 2^32. -/
theorem half_lt {U u Y q : Int} (hle : q * Y ≤ U * 4294967296 + u) (hU : U < Y) (hu : u < 4294967296) (hY : 0 < Y) : q < 4294967296 := by
  rcases Int.lt_or_le q 4294967296 with h | h
  · exact h
  · exfalso
    have h1 : 4294967296 * Y ≤ q * Y := Int.mul_le_mul_of_nonneg_right h (by omega)
    omega
/-- Both half words. -/
theorem two_halves {hi lo y p N U u1 u0 q1 q0 R : Int} (hp : 0 < p) (hy : 0 < y) (hN : (U * 4294967296 + u1) * 4294967296 + u0 = (hi * 18446744073709551616 + lo) * p) (h1 : q1 * (y * p) ≤ U * 4294967296 + u1) (h1' : U * 4294967296 + u1 < (q1 + 1) * (y * p))
    (h2 : q0 * (y * p) ≤ (U * 4294967296 + u1 - q1 * (y * p)) * 4294967296 + u0) (h2' : (U * 4294967296 + u1 - q1 * (y * p)) * 4294967296 + u0 < (q0 + 1) * (y * p)) (hR : R = (U * 4294967296 + u1 - q1 * (y * p)) * 4294967296 + u0 - q0 * (y * p)) :
    q1 * 4294967296 + q0 = (hi * 18446744073709551616 + lo) / y ∧ R / p = (hi * 18446744073709551616 + lo) % y := by
  have h := div_sc (x := hi * 18446744073709551616 + lo) (y := y) (q := q1 * 4294967296 + q0) (r := R) hp ?_ ?_ ?_
  · exact ⟨h.1, h.2.1⟩
  · rw [hR, show p * (hi * 18446744073709551616 + lo) = (hi * 18446744073709551616 + lo) * p from Int.mul_comm _ _, ← hN]; grind
  · omega
  · have : (q0 + 1) * (y * p) = q0 * (y * p) + p * y := by grind
    omega
/-- A word moved up to its top. -/
theorem norm_word {y : Int} (h0 : 0 < y) (h1 : y < 18446744073709551616) : ∃ S : Nat, (S : Int) = 64 - (nbits y.toNat : Int) ∧ S ≤ 63 ∧ 9223372036854775808 ≤ y * 2 ^ S ∧ y * 2 ^ S < 18446744073709551616 := by
  obtain ⟨Y, rfl⟩ := Int.eq_ofNat_of_zero_le (Int.le_of_lt h0)
  have hY : Y ≠ 0 := by omega
  rw [Int.toNat_natCast]
  have h2 := nbits_pos hY
  have h3 : nbits Y ≤ 64 := nbits_le_iff.2 (by omega)
  refine ⟨64 - nbits Y, by omega, by omega, ?_, ?_⟩
  · have h4 := nbits_le hY
    have h5 : 2 ^ (nbits Y - 1) * 2 ^ (64 - nbits Y) ≤ Y * 2 ^ (64 - nbits Y) := Nat.mul_le_mul_right _ h4
    rw [← Nat.pow_add, show nbits Y - 1 + (64 - nbits Y) = 63 by omega] at h5
    have e : ((Y * 2 ^ (64 - nbits Y) : Nat) : Int) = (Y : Int) * 2 ^ (64 - nbits Y) := by simp
    have e2 : (2 : Nat) ^ 63 = 9223372036854775808 := by decide
    omega
  · have h4 := nbits_lt Y
    have h5 : Y * 2 ^ (64 - nbits Y) < 2 ^ nbits Y * 2 ^ (64 - nbits Y) := Nat.mul_lt_mul_of_pos_right h4 (Nat.pow_pos (by decide))
    rw [← Nat.pow_add, show nbits Y + (64 - nbits Y) = 64 by omega] at h5
    have e : ((Y * 2 ^ (64 - nbits Y) : Nat) : Int) = (Y : Int) * 2 ^ (64 - nbits Y) := by simp
    have e2 : (2 : Nat) ^ 64 = 18446744073709551616 := by decide
    omega
theorem shl_split {x : Int} {S : Nat} (hS : S ≤ 64) : x / 2 ^ (64 - S) * 18446744073709551616 + x * 2 ^ S % 18446744073709551616 = x * 2 ^ S := by
  have e : (18446744073709551616 : Int) = 2 ^ (64 - S) * 2 ^ S := by rw [← Int.pow_add, show 64 - S + S = 64 by omega]; decide
  have h1 : x * 2 ^ S / 18446744073709551616 = x / 2 ^ (64 - S) := by
    rw [e, Int.mul_ediv_mul_of_pos_left _ _ (two_pos S)]
  have h2 := Int.mul_ediv_add_emod (x * 2 ^ S) 18446744073709551616
  rw [h1] at h2
  omega
theorem shl_top {hi y lo : Int} {S : Nat} (hS : S ≤ 63) (h0 : 0 ≤ hi) (h : hi < y) (hl : y * 2 ^ S < 18446744073709551616) (hlo : 0 ≤ lo) (hlo2 : lo < 18446744073709551616) :
    0 ≤ lo / 2 ^ (64 - S) ∧ lo / 2 ^ (64 - S) < 2 ^ S ∧ 0 ≤ hi * 2 ^ S ∧ hi * 2 ^ S + 2 ^ S ≤ y * 2 ^ S := by
  refine ⟨Int.ediv_nonneg hlo (Int.le_of_lt (two_pos _)), ?_, Int.mul_nonneg h0 (Int.le_of_lt (two_pos _)), ?_⟩
  · refine Int.ediv_lt_of_lt_mul (two_pos _) ?_
    rw [← Int.pow_add, show S + (64 - S) = 64 by omega]
    exact hlo2
  · have : (hi + 1) * 2 ^ S ≤ y * 2 ^ S := Int.mul_le_mul_of_nonneg_right (by omega) (Int.le_of_lt (two_pos _))
    rw [Int.add_mul] at this
    omega
theorem ediv_rg {a b : Int} (h : 0 ≤ a) (hb : 0 < b) : 0 ≤ a / b ∧ a / b ≤ a ∧ a / b * b ≤ a ∧ 0 ≤ a / b * b := by
  have h0 : 0 ≤ a / b := Int.ediv_nonneg h (Int.le_of_lt hb)
  exact ⟨h0, Int.ediv_le_self b h, Int.ediv_mul_le a (Int.ne_of_gt hb), Int.mul_nonneg h0 (Int.le_of_lt hb)⟩
theorem and_mask {a b : Int} {n : Nat} (h0 : 0 ≤ a) (h1 : a < 18446744073709551616) (hb : b = 2 ^ n - 1 ∧ n ≤ 64) : bitV .u64 .and a b = a % 2 ^ n := by
  obtain ⟨x, rfl⟩ := Int.eq_ofNat_of_zero_le h0
  obtain ⟨rfl, hn⟩ := hb
  have e1 : (2 : Int) ^ n - 1 = ((2 ^ n - 1 : Nat) : Int) := by
    have : 0 < 2 ^ n := Nat.pow_pos (by decide)
    rw [Int.natCast_sub this]; simp
  have hx : x < 2 ^ 64 := by have : (2 : Nat) ^ 64 = 18446744073709551616 := by decide
                             omega
  have hm : 2 ^ n - 1 < 2 ^ 64 := by
    have : 2 ^ n ≤ 2 ^ 64 := Nat.pow_le_pow_right (by decide) hn
    have : 0 < 2 ^ n := Nat.pow_pos (by decide)
    omega
  have e2 : (x : Int) % 2 ^ n = ((x % 2 ^ n : Nat) : Int) := by simp
  have hlt : x % 2 ^ n < 2 ^ 64 := Nat.lt_of_le_of_lt (Nat.mod_le _ _) hx
  rw [e1, e2]
  simp only [bitV, BitVec.ofInt_natCast, BitVec.toNat_and, BitVec.toNat_ofNat]
  rw [Nat.mod_eq_of_lt (show x < 2 ^ IntKind.u64.bits from hx), Nat.mod_eq_of_lt (show 2 ^ n - 1 < 2 ^ IntKind.u64.bits from hm), Nat.and_two_pow_sub_one_eq_mod]
  exact wn_u64 (by omega) (by have : (2 : Nat) ^ 64 = 18446744073709551616 := by decide
                              omega)
theorem shl_w {k : IntKind} {a b : Int} {K : Nat} {M : Int} (hb : b = (K : Nat)) (hK : K ≤ k.bits) (hw : k.wrap (a * 2 ^ K) = M) : k.wrap (a * 2 ^ (min b.toNat k.bits)) = M := by
  subst hb
  rw [show min ((K : Nat) : Int).toNat k.bits = K by simp only [Int.toNat_natCast]; omega]
  exact hw
theorem shr_v {k : IntKind} {a b : Int} {K : Nat} (hb : b = (K : Nat)) (hK : K ≤ k.bits) : a.fdiv (2 ^ (min b.toNat k.bits)) = a / 2 ^ K := by
  subst hb
  rw [show min ((K : Nat) : Int).toNat k.bits = K by simp only [Int.toNat_natCast]; omega]
  exact Int.fdiv_eq_ediv_of_nonneg _ (Int.le_of_lt (two_pos K))
end Go.Proofs.Ytpnjkjahfklfnaa.Fw
