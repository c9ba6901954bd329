/- Division bit by bit, quotients of numbers with signs, common divisors: plain mathematics. -/
import Derived.Test.YtpnjkjahfklfnaaMa7
set_option linter.unusedVariables false
set_option linter.unusedSimpArgs false
namespace Go.Proofs.Ytpnjkjahfklfnaa.Fw
/-- One bit of a quotient. -/
theorem bit_zero {xs : List Int} {i : Nat} (ho : okW (2 ^ 32) xs) (hd : (2 : Int) ^ (i + 1) ∣ valB (2 ^ 32) xs) : xs.getD (i / 32) 0 % 2 ^ (i % 32 + 1) = 0 := by
  rw [digit (by decide) (i / 32) ho]
  obtain ⟨t, ht⟩ := hd
  have e : (2 : Int) ^ (i + 1) = (2 ^ 32) ^ (i / 32) * 2 ^ (i % 32 + 1) := by rw [← Int.pow_mul, ← Int.pow_add]; congr 1; omega
  rw [ht, e, Int.mul_assoc, Int.mul_ediv_cancel_left _ (Int.ne_of_gt (Int.pow_pos (Int.pow_pos (by decide))))]
  have e2 : (2 : Int) ^ 32 = 2 ^ (i % 32 + 1) * 2 ^ (31 - i % 32) := by rw [← Int.pow_add]; congr 1; omega
  rw [e2, Int.emod_emod_of_dvd _ (Int.dvd_mul_right _ _)]
  exact Int.mul_emod_right _ _
theorem bit_set {xs : List Int} {i : Nat} {b R a : Int} (hl : i / 32 < xs.length) (h : R + b * valB (2 ^ 32) xs = a) : R - 2 ^ i * b + b * valB (2 ^ 32) (xs.set (i / 32) (xs.getD (i / 32) 0 + 2 ^ (i % 32))) = a := by
  rw [valB_set _ _ _ hl]
  have e : (2 : Int) ^ i = (2 ^ 32) ^ (i / 32) * 2 ^ (i % 32) := by rw [← Int.pow_mul, ← Int.pow_add]; congr 1; omega
  rw [e]
  grind
theorem bit_dvd {xs : List Int} {i : Nat} (hl : i / 32 < xs.length) (hd : (2 : Int) ^ (i + 1) ∣ valB (2 ^ 32) xs) : (2 : Int) ^ i ∣ valB (2 ^ 32) (xs.set (i / 32) (xs.getD (i / 32) 0 + 2 ^ (i % 32))) := by
  rw [valB_set _ _ _ hl]
  have e : (2 : Int) ^ i = (2 ^ 32) ^ (i / 32) * 2 ^ (i % 32) := by rw [← Int.pow_mul, ← Int.pow_add]; congr 1; omega
  obtain ⟨t, ht⟩ := hd
  refine ⟨2 * t + 1, ?_⟩
  rw [ht, Int.pow_succ, e]
  grind
theorem bit_dvd0 {x : Int} {i : Nat} (hd : (2 : Int) ^ (i + 1) ∣ x) : (2 : Int) ^ i ∣ x := by
  obtain ⟨t, ht⟩ := hd
  exact ⟨2 * t, by rw [ht, Int.pow_succ]; grind⟩
theorem bit_lt {R b : Int} {i : Nat} (h : R < b * 2 ^ (i + 1)) : R - 2 ^ i * b < b * 2 ^ i := by
  rw [Int.pow_succ] at h
  have : b * (2 ^ i * 2) = b * 2 ^ i + 2 ^ i * b := by grind
  omega
theorem bits_start {a b : Nat} {n : Nat} (hb : 0 < b) (hn : nbits a = nbits b + n) : (a : Int) < (b : Int) * 2 ^ (n + 1) := by
  have h1 := nbits_lt a
  have h2 := nbits_le (x := b) (by omega)
  have h3 := nbits_pos (x := b) (by omega)
  rw [hn] at h1
  have e : nbits b + n = (nbits b - 1) + (n + 1) := by omega
  rw [e, Nat.pow_add] at h1
  have h4 : 2 ^ (nbits b - 1) * 2 ^ (n + 1) ≤ b * 2 ^ (n + 1) := Nat.mul_le_mul_right _ h2
  have h5 : a < b * 2 ^ (n + 1) := by omega
  have : ((b * 2 ^ (n + 1) : Nat) : Int) = (b : Int) * 2 ^ (n + 1) := by simp
  omega
theorem nbits_mono_lt {a b : Nat} (h : nbits a < nbits b) : a < b := by
  rcases Nat.lt_or_ge a b with h1 | h1
  · exact h1
  · have h2 := nbits_lt a
    have h3 : nbits b ≤ nbits a := nbits_le_iff.2 (by omega)
    omega
/-- What parts a number. -/
theorem div_of {x y q r : Int} (h : r + y * q = x) (h0 : 0 ≤ r) (h1 : r < y) : q = x / y ∧ r = x % y := by
  subst h
  refine ⟨?_, ?_⟩
  · rw [Int.add_mul_ediv_left _ _ (by omega), Int.ediv_eq_zero_of_lt h0 h1]; omega
  · rw [Int.add_mul_emod_self_left, Int.emod_eq_of_lt h0 h1]
theorem div_sc {x y q r p : Int} (hp : 0 < p) (h : r + p * y * q = p * x) (h0 : 0 ≤ r) (h1 : r < p * y) : q = x / y ∧ r / p = x % y ∧ r = p * (x % y) := by
  have hd : r % p = 0 := by
    have : r = p * (x - y * q) := by grind
    rw [this]; exact Int.mul_emod_right _ _
  have e := Int.mul_ediv_add_emod r p
  rw [hd] at e
  have h2 : r / p + y * q = x := by
    have : p * (r / p + y * q) = p * x := by grind
    exact Int.eq_of_mul_eq_mul_left (Int.ne_of_gt hp) this
  have h3 : r / p < y := Int.ediv_lt_of_lt_mul hp (by rw [Int.mul_comm]; exact h1)
  have h4 : 0 ≤ r / p := Int.ediv_nonneg h0 (Int.le_of_lt hp)
  obtain ⟨a, b⟩ := div_of h2 h4 h3
  exact ⟨a, b, by rw [← b]; omega⟩
theorem ediv_of {x y q r : Int} (h : r + y * q = x) (h0 : 0 ≤ r) (h1 : r < (y.natAbs : Int)) : q = x / y ∧ r = x % y := by
  have hy : y ≠ 0 := by omega
  subst h
  have hr : r = (r + y * q) % y := by
    rw [Int.add_mul_emod_self_left]
    rcases Int.lt_or_le y 0 with h | h
    · rw [← Int.emod_neg, Int.emod_eq_of_lt h0 (by omega)]
    · rw [Int.emod_eq_of_lt h0 (by omega)]
  refine ⟨?_, hr⟩
  have e := Int.mul_ediv_add_emod (r + y * q) y
  rw [← hr] at e
  have : y * ((r + y * q) / y) = y * q := by omega
  exact (Int.eq_of_mul_eq_mul_left hy this).symm
/-- From the parts of the sizes to the parts of the numbers: the rest is not below 0. -/
theorem over_pos {nx ny : Bool} {x y : Int} (hx : nx = true ↔ x < 0) (hy : ny = true ↔ y < 0) (h0 : y ≠ 0) (hr : ¬ sg nx ((x.natAbs : Int) % (y.natAbs : Int)) < 0) :
    sg (nx != ny) ((x.natAbs : Int) / (y.natAbs : Int)) = x / y ∧ sg nx ((x.natAbs : Int) % (y.natAbs : Int)) = x % y := by
  have e := Int.mul_ediv_add_emod (x.natAbs : Int) (y.natAbs : Int)
  have r0 := Int.emod_nonneg (x.natAbs : Int) (show (y.natAbs : Int) ≠ 0 by omega)
  have r1 := Int.emod_lt_of_pos (x.natAbs : Int) (show 0 < (y.natAbs : Int) by omega)
  generalize (x.natAbs : Int) / (y.natAbs : Int) = Q at *
  generalize (x.natAbs : Int) % (y.natAbs : Int) = R at *
  refine ediv_of ?_ (by omega) (by cases nx <;> simp [sg] at hr ⊢ <;> omega)
  have ex : (x.natAbs : Int) = if nx then -x else x := by cases nx <;> simp at hx <;> simp <;> omega
  have ey : (y.natAbs : Int) = if ny then -y else y := by cases ny <;> simp at hy <;> simp <;> omega
  rw [ex, ey] at e
  cases nx <;> cases ny <;> simp [sg, Int.neg_mul, Int.mul_neg] at e hr ⊢ <;> omega
theorem over_neg {nx ny : Bool} {x y : Int} (hx : nx = true ↔ x < 0) (hy : ny = true ↔ y < 0) (h0 : y ≠ 0) (hr : sg nx ((x.natAbs : Int) % (y.natAbs : Int)) < 0) :
    sg (nx != ny) ((x.natAbs : Int) / (y.natAbs : Int)) + (if ny then 1 else -1) = x / y ∧ sg nx ((x.natAbs : Int) % (y.natAbs : Int)) + (y.natAbs : Int) = x % y := by
  have e := Int.mul_ediv_add_emod (x.natAbs : Int) (y.natAbs : Int)
  have r0 := Int.emod_nonneg (x.natAbs : Int) (show (y.natAbs : Int) ≠ 0 by omega)
  have r1 := Int.emod_lt_of_pos (x.natAbs : Int) (show 0 < (y.natAbs : Int) by omega)
  generalize (x.natAbs : Int) / (y.natAbs : Int) = Q at *
  generalize (x.natAbs : Int) % (y.natAbs : Int) = R at *
  refine ediv_of ?_ (by cases nx <;> simp [sg] at hr ⊢ <;> omega) (by omega)
  have ex : (x.natAbs : Int) = if nx then -x else x := by cases nx <;> simp at hx <;> simp <;> omega
  have ey : (y.natAbs : Int) = if ny then -y else y := by cases ny <;> simp at hy <;> simp <;> omega
  rw [ex, ey] at e
  rw [ey]
  cases nx <;> cases ny <;> simp [sg, Int.neg_mul, Int.mul_neg, Int.mul_add] at e hr ⊢ <;> omega
theorem gcd_step {x y : Int} : ((Int.gcd y (x % y) : Nat) : Int) = ((Int.gcd x y : Nat) : Int) := by
  rw [Int.gcd_comm x y]
  congr 1
  apply Nat.dvd_antisymm
  · refine Int.dvd_gcd (Int.gcd_dvd_left ..) ?_
    have e := Int.mul_ediv_add_emod x y
    have h1 : ((Int.gcd y (x % y) : Nat) : Int) ∣ y * (x / y) + x % y := Int.dvd_add (Int.dvd_trans (Int.gcd_dvd_left ..) (Int.dvd_mul_right _ _)) (Int.gcd_dvd_right ..)
    rwa [e] at h1
  · refine Int.dvd_gcd (Int.gcd_dvd_left ..) ?_
    have e := Int.mul_ediv_add_emod x y
    have h1 : ((Int.gcd y x : Nat) : Int) ∣ x - y * (x / y) := Int.dvd_sub (Int.gcd_dvd_right ..) (Int.dvd_trans (Int.gcd_dvd_left ..) (Int.dvd_mul_right _ _))
    rwa [show x - y * (x / y) = x % y by omega] at h1
end Go.Proofs.Ytpnjkjahfklfnaa.Fw
