/- The guesses of division, as its loops say them: plain mathematics. -/
import Derived.Test.YtpnjkjahfklfnaaMa13
set_option linter.unusedVariables false
set_option linter.unusedSimpArgs false
namespace Go.Proofs.Ytpnjkjahfklfnaa.Fw
/-! ### The guesses, as the loops say them -/
theorem p64 : (2 : Int) ^ 64 = 18446744073709551616 := by decide
theorem guess64 {U V : List Int} {n J : Nat} {q r : Int} (hU : okW (2 ^ 64) U) (hV : okW (2 ^ 64) V) (hVz : ∀ k, n ≤ k → V.getD k 0 = 0) (hn : 2 ≤ n) (hVl : n ≤ V.length) (hJ : 1 ≤ J) (hu : J - 1 + n < U.length)
    (hlt : valB (2 ^ 64) U < valB (2 ^ 64) V * (2 ^ 64) ^ J) (hq : q * V.getD (n - 1) 0 + r = U.getD (J - 1 + n) 0 * 18446744073709551616 + U.getD (J - 1 + n - 1) 0) (hr : r < V.getD (n - 1) 0) (hq0 : 0 ≤ q) :
    valB (2 ^ 64) U < (q + 1) * valB (2 ^ 64) V * (2 ^ 64) ^ (J - 1) := by
  obtain ⟨k, rfl⟩ : ∃ k, n = k + 2 := ⟨n - 2, by omega⟩
  have ht := val_take_zero (B := 2 ^ 64) hVz
  rw [← ht] at hlt ⊢
  refine guess (k := k) (by decide) hU (hV.take _) (by simp; omega) (r := r) hu (by rw [show J - 1 + 1 = J by omega]; exact hlt) ?_ ?_ hq0
  · rw [getD_take _ _ _ (by omega), p64]
    have e : J - 1 + (k + 2) - 1 = J - 1 + (k + 1) := by omega
    rw [e] at hq
    exact hq
  · rw [getD_take _ _ _ (by omega)]; exact hr
theorem guess_less64 {U V : List Int} {n J : Nat} {q r : Int} (hU : okW (2 ^ 64) U) (hV : okW (2 ^ 64) V) (hVz : ∀ k, n ≤ k → V.getD k 0 = 0) (hn : 2 ≤ n) (hVl : n ≤ V.length) (hJ : 1 ≤ J) (hu : J - 1 + n < U.length)
    (hlt : valB (2 ^ 64) U < valB (2 ^ 64) V * (2 ^ 64) ^ J) (hq : q * V.getD (n - 1) 0 + r = U.getD (J - 1 + n) 0 * 18446744073709551616 + U.getD (J - 1 + n - 1) 0) (hq0 : 0 ≤ q)
    (hgt : r * 18446744073709551616 + U.getD (J - 1 + n - 2) 0 < q * V.getD (n - 2) 0) :
    valB (2 ^ 64) U < (q - 1 + 1) * valB (2 ^ 64) V * (2 ^ 64) ^ (J - 1) := by
  obtain ⟨k, rfl⟩ : ∃ k, n = k + 2 := ⟨n - 2, by omega⟩
  have ht := val_take_zero (B := 2 ^ 64) hVz
  rw [← ht] at hlt ⊢
  refine guess_less (k := k) (by decide) hU (hV.take _) (by simp; omega) (r := r) hu (by rw [show J - 1 + 1 = J by omega]; exact hlt) ?_ hq0 ?_
  · rw [getD_take _ _ _ (by omega), p64]
    have e : J - 1 + (k + 2) - 1 = J - 1 + (k + 1) := by omega
    rw [e] at hq
    exact hq
  · rw [getD_take _ _ _ (by omega), p64]
    have e : J - 1 + (k + 2) - 2 = J - 1 + k := by omega
    rw [e] at hgt
    exact hgt
theorem guess_top64 {X W : Int} {J : Nat} (hJ : 1 ≤ J) (h : X < W * (2 ^ 64) ^ J) : X < (18446744073709551615 + 1) * W * (2 ^ 64) ^ (J - 1) := by
  obtain ⟨j, rfl⟩ : ∃ j, J = j + 1 := ⟨J - 1, by omega⟩
  have := guess_top (B := 2 ^ 64) h
  rw [show j + 1 - 1 = j by omega]
  exact this
theorem start_lt {x y : Int} {m n : Nat} (hy : (2 ^ 64) ^ (n - 1) ≤ y) (hx : x < (2 ^ 64) ^ m) (hn : 1 ≤ n) (h : n ≤ m) : x < y * (2 ^ 64) ^ (m - n + 1) := by
  have h1 : ((2 : Int) ^ 64) ^ (n - 1) * (2 ^ 64) ^ (m - n + 1) ≤ y * (2 ^ 64) ^ (m - n + 1) := Int.mul_le_mul_of_nonneg_right hy (Int.le_of_lt (pw_pos (by decide) _))
  rw [← Int.pow_add, show n - 1 + (m - n + 1) = m by omega] at h1
  omega
theorem top_lt {X V : Int} {n J m : Nat} (h : X < V * (2 ^ 64) ^ J) (hV : V < (2 ^ 64) ^ n) (hm : m = n + J) : X < (2 ^ 64) ^ m := by
  have h1 : V * (2 ^ 64) ^ J < (2 ^ 64) ^ n * (2 ^ 64) ^ J := Int.mul_lt_mul_of_pos_right hV (pw_pos (by decide) J)
  rw [← Int.pow_add, ← hm] at h1
  omega
theorem modsum (s : Int) : s % 18446744073709551616 + 18446744073709551616 * (s / 18446744073709551616) = s := Int.emod_add_mul_ediv s _
theorem bit_room {q : Int} {k : Nat} (h0 : 0 ≤ q) (h1 : q < 4294967296) (hz : q % 2 ^ (k + 1) = 0) (hk : k ≤ 31) : q + 2 ^ k < 4294967296 := by
  have e : (4294967296 : Int) = 2 ^ (k + 1) * 2 ^ (31 - k) := by rw [← Int.pow_add, show k + 1 + (31 - k) = 32 by omega]; decide
  obtain ⟨t, ht⟩ := Int.dvd_of_emod_eq_zero hz
  have hp := two_pos (k + 1)
  have hp2 := two_pos k
  rw [ht, e] at h1
  have h4 : t < 2 ^ (31 - k) := Int.lt_of_mul_lt_mul_left h1 (Int.le_of_lt hp)
  have h5 : 2 ^ (k + 1) * (t + 1) ≤ 2 ^ (k + 1) * 2 ^ (31 - k) := Int.mul_le_mul_of_nonneg_left h4 (Int.le_of_lt hp)
  rw [Int.mul_add, Int.mul_one, ← e, ← ht] at h5
  have e3 : (2 : Int) ^ (k + 1) = 2 ^ k * 2 := Int.pow_succ ..
  omega
theorem hi_zero {u : Int} {S : Nat} (h : S = 0) : 0 = u * 2 ^ (64 - S) % 18446744073709551616 := by
  subst h
  rw [show (2 : Int) ^ (64 - 0) = 18446744073709551616 by decide, Int.mul_emod_left]
theorem div_sz {x y : Int} {s : Nat} (h0 : 0 ≤ x) (hy : 0 < y) (h : x < 2 ^ s) : x / y < 2 ^ s := by
  have := Int.ediv_le_self y h0
  omega
theorem mod_sz {x y : Int} {s : Nat} (hy : 0 < y) (h : y < 2 ^ s) : x % y < 2 ^ s := by
  have := Int.emod_lt_of_pos x hy
  omega
end Go.Proofs.Ytpnjkjahfklfnaa.Fw
