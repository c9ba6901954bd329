/- Wide numbers, in plain Lean. -/
import Derived.Test.YtpnjkjahfklfnaaFw10
set_option linter.unusedVariables false
namespace Go.Proofs.Ytpnjkjahfklfnaa.Fw
open Go
theorem p2n (n : Nat) : (2 : Int) ^ n = ((2 ^ n : Nat) : Int) := by simp
def u256 (a3 a2 a1 a0 : Int) : Int := a0 + 18446744073709551616 * (a1 + 18446744073709551616 * (a2 + 18446744073709551616 * a3))
/-- What four words are worth, as a number with a sign. -/
def wz (a3 a2 a1 a0 : Int) : Int := if a3 / 9223372036854775808 = 0 then u256 a3 a2 a1 a0 else u256 a3 a2 a1 a0 - 115792089237316195423570985008687907853269984665640564039457584007913129639936
theorem wz_lo {a3 a2 a1 a0 : Int} (h : a3 / 9223372036854775808 = 0) : sg false (valB (2 ^ 64) [a0, a1, a2, a3]) = wz a3 a2 a1 a0 := by
  have e : (2 : Int) ^ 64 = 18446744073709551616 := by decide
  unfold wz
  rw [if_pos h, e]
  simp [sg, valB, u256]
theorem wz_hi {a3 a2 a1 a0 : Int} (h : ¬ a3 / 9223372036854775808 = 0) :
    sg true (valB (2 ^ 64) (trimL [18446744073709551615 - a0, 18446744073709551615 - a1, 18446744073709551615 - a2, 18446744073709551615 - a3]) + valB (2 ^ 64) [1]) = wz a3 a2 a1 a0 := by
  have e : (2 : Int) ^ 64 = 18446744073709551616 := by decide
  unfold wz
  rw [if_neg h, trimL_val, e]
  simp only [sg, valB, u256, if_true]
  omega
theorem getD_take_or (xs : List Int) (n : Nat) : (n = 0 ∨ (xs.take n).getD (n - 1) 0 ≠ 0) = (n = 0 ∨ xs.getD (n - 1) 0 ≠ 0) := by
  by_cases h : n = 0
  · simp [h]
  · rw [getD_take xs n (n - 1) (by omega)]
/-! ### Words of 32 bits that grow by append -/
theorem add_app {B : Int} {xs ys L : List Int} {i : Nat} {c c2 z : Int} (hl : L.length = i) (h : valB B L + c * B ^ i = valB B (xs.take i) + valB B (ys.take i)) (hz : z + B * c2 = xs.getD i 0 + ys.getD i 0 + c) :
    valB B (L ++ [z]) + c2 * B ^ (i + 1) = valB B (xs.take (i + 1)) + valB B (ys.take (i + 1)) := by
  rw [valB_snoc, hl, valB_take_succ', valB_take_succ', Int.pow_succ]
  have e : B ^ i * (z + B * c2) = B ^ i * (xs.getD i 0 + ys.getD i 0 + c) := by rw [hz]
  simp only [Int.mul_add] at e
  have e2 : c2 * (B ^ i * B) = B ^ i * (B * c2) := by rw [Int.mul_comm c2, Int.mul_assoc]
  have e3 : c * B ^ i = B ^ i * c := Int.mul_comm _ _
  omega
theorem sub_app {B : Int} {xs ys L : List Int} {i : Nat} {c c2 z : Int} (hl : L.length = i) (h : valB B L - c * B ^ i = valB B (xs.take i) - valB B (ys.take i)) (hz : z = xs.getD i 0 - ys.getD i 0 - c + B * c2) :
    valB B (L ++ [z]) - c2 * B ^ (i + 1) = valB B (xs.take (i + 1)) - valB B (ys.take (i + 1)) := by
  rw [valB_snoc, hl, valB_take_succ', valB_take_succ', Int.pow_succ]
  have e : B ^ i * z = B ^ i * (xs.getD i 0 - ys.getD i 0 - c + B * c2) := by rw [hz]
  simp only [Int.mul_add, Int.mul_sub] at e
  have e2 : c2 * (B ^ i * B) = B ^ i * (B * c2) := by rw [Int.mul_comm c2, Int.mul_assoc]
  have e3 : c * B ^ i = B ^ i * c := Int.mul_comm _ _
  omega
theorem okW.snoc {B : Int} {L : List Int} {z : Int} (h : okW B L) (h0 : 0 ≤ z) (h1 : z < B) : okW B (L ++ [z]) := h.append (okW.cons h0 h1 okW.nil)
theorem sub_app_fin {B : Int} {xs ys L : List Int} {i : Nat} {c : Int} (hB : 0 < B) (hl : L.length = i) (hi : xs.length ≤ i) (hy : ys.length ≤ xs.length) (hok : okW B L) (hc : 0 ≤ c ∧ c ≤ 1) (hle : valB B ys ≤ valB B xs) (h : valB B L - c * B ^ i = valB B (xs.take i) - valB B (ys.take i)) :
    valB B L = valB B xs - valB B ys := by
  rw [valB_take_ge xs i hi, valB_take_ge ys i (by omega)] at h
  have h1 := valB_lt (Int.le_of_lt hB) hok
  rw [hl] at h1
  have hc' : c = 0 ∨ c = 1 := by omega
  rcases hc' with rfl | rfl
  · omega
  · omega
theorem add_app_fin {B : Int} {xs ys L : List Int} {i : Nat} {c : Int} (hl : L.length = i) (hi : xs.length ≤ i) (hy : ys.length ≤ xs.length) (h : valB B L + c * B ^ i = valB B (xs.take i) + valB B (ys.take i)) :
    valB B (L ++ [c]) = valB B xs + valB B ys ∧ (c = 0 → valB B L = valB B xs + valB B ys) := by
  rw [valB_take_ge xs i hi, valB_take_ge ys i (by omega)] at h
  have e3 : c * B ^ i = B ^ i * c := Int.mul_comm _ _
  refine ⟨by rw [valB_snoc, hl]; omega, fun hc => ?_⟩
  subst hc
  omega
theorem left_inv {xs L : List Int} {i N : Nat} {c c2 z x : Int} (hl : L.length = N / 32 + i) (h : valB (2 ^ 32) L + (2 ^ 32) ^ L.length * c = 2 ^ N * valB (2 ^ 32) (xs.take i)) (hx : x = xs.getD i 0) (hz : z + 2 ^ 32 * c2 = c + x * 2 ^ (N % 32)) :
    valB (2 ^ 32) (L ++ [z]) + (2 ^ 32) ^ (L ++ [z]).length * c2 = 2 ^ N * valB (2 ^ 32) (xs.take (i + 1)) := by
  subst hx
  have hp : ((2 : Int) ^ 32) ^ L.length * 2 ^ (N % 32) = 2 ^ N * (2 ^ 32) ^ i := by
    rw [← Int.pow_mul, ← Int.pow_mul, ← Int.pow_add, ← Int.pow_add, hl]
    congr 1
    omega
  generalize (2 : Int) ^ 32 = B at *
  rw [valB_snoc, valB_take_succ', List.length_append, List.length_singleton, Int.pow_succ, Int.mul_add, ← Int.mul_assoc (2 ^ N), ← hp]
  have e : B ^ L.length * (z + B * c2) = B ^ L.length * (c + xs.getD i 0 * 2 ^ (N % 32)) := by rw [hz]
  simp only [Int.mul_add] at e
  have e2 : B ^ L.length * B * c2 = B ^ L.length * (B * c2) := Int.mul_assoc _ _ _
  have e4 : B ^ L.length * 2 ^ (N % 32) * xs.getD i 0 = B ^ L.length * (xs.getD i 0 * 2 ^ (N % 32)) := by rw [Int.mul_assoc, Int.mul_comm (2 ^ (N % 32))]
  omega
theorem left_cy {c x p : Int} (hp : 0 < p) (h0 : 0 ≤ c) (h1 : c < p) (hx0 : 0 ≤ x) (hx : x < 4294967296) : c + x * p < 4294967296 * p := by
  have : (x + 1) * p ≤ 4294967296 * p := Int.mul_le_mul_of_nonneg_right (by omega) (by omega)
  rw [Int.add_mul] at this
  omega
theorem lt64 {x : Int} (h : x < 18446744073709551616) : x < 2 ^ IntKind.u64.bits := by
  have e : (2 : Int) ^ IntKind.u64.bits = 18446744073709551616 := by decide
  omega
theorem vsl {A : Option Addr} {l l' c : Nat} (h : l' = l) : Value.slice A l c = Value.slice A l' c := by rw [h]
theorem left_p (N : Nat) : (2 : Int) ^ (N % 32) ≤ 4294967296 := by
  have h : ((2 : Int) ^ (N % 32)) ≤ 2 ^ 32 := pow_le_of (by decide) (by omega)
  have e : (2 : Int) ^ 32 = 4294967296 := by decide
  omega
theorem left_c2 {c p : Int} (h : c < 4294967296 * p) : c / 4294967296 < p := by omega
theorem left_fin {xs L : List Int} {i N : Nat} {c : Int} (h : valB (2 ^ 32) L + (2 ^ 32) ^ L.length * c = 2 ^ N * valB (2 ^ 32) (xs.take i)) (hi : xs.length ≤ i) : valB (2 ^ 32) (L ++ [c]) = 2 ^ N * valB (2 ^ 32) xs := by
  rw [valB_take_ge xs i hi] at h
  rw [valB_snoc]; exact h
theorem left_fin0 {xs L : List Int} {i N : Nat} {c : Int} (h : valB (2 ^ 32) L + (2 ^ 32) ^ L.length * c = 2 ^ N * valB (2 ^ 32) (xs.take i)) (hi : xs.length ≤ i) (hc : c = 0) : valB (2 ^ 32) L = 2 ^ N * valB (2 ^ 32) xs := by
  subst hc
  rw [valB_take_ge xs i hi] at h
  omega
theorem left_sz {x y : Int} {m s : Nat} (h : y = 2 ^ m * x) (hs : x < 2 ^ s) : y < 2 ^ (s + m) := by
  subst h
  rw [Int.pow_add, Int.mul_comm]
  exact Int.mul_lt_mul_of_pos_right hs (two_pos m)
theorem sg_natAbs {neg : Bool} {x : Int} (h : 0 ≤ x) : ((sg neg x).natAbs : Int) = x := by cases neg <;> simp [sg] <;> omega
theorem Wc.eq {m T : Nat} {k : IntKind} {w : World} {A : Option Addr} {l c : Nat} {x y : Int} (h : Wc m T k w A l c x) (e : x = y) : Wc m T k w A l c y := e ▸ h
theorem Ws.eq {m T : Nat} {k : IntKind} {w : World} {A : Option Addr} {l c : Nat} {x y : Int} (h : Ws m T k w A l c x) (e : x = y) : Ws m T k w A l c y := e ▸ h
theorem Num.tight {m T : Nat} {k : IntKind} {w : World} {neg : Bool} {A : Option Addr} {l c : Nat} {z z' : Int} {s s' : Nat} (h : Num m T k w neg A l c z s) (hz : z = z') (hs : z'.natAbs < 2 ^ s') : Num m T k w neg A l c z' s' := by
  subst hz
  obtain ⟨xs, h1, h2, h3, h4, h5, h6, h7, h8⟩ := h
  exact ⟨xs, h1, h2, h3, h4, h5, h6, h7, hs⟩
theorem Ws.lo {m T : Nat} {k : IntKind} {w : World} {A : Option Addr} {l c s : Nat} {x : Int} (h : Ws m T k w A l c x) (hs : 2 ^ s ≤ x) : s < m * l := by
  obtain ⟨xs, rfl, hc, hw, ho, rfl⟩ := h
  have := valB_sz ho rfl
  rcases Nat.lt_or_ge s (m * xs.length) with h | h
  · exact h
  · have := pow_le_of (B := 2) (by decide) h
    omega
theorem Wc.lo {m T : Nat} {k : IntKind} {w : World} {A : Option Addr} {l c s : Nat} {x : Int} (h : Wc m T k w A l c x) (hs : 2 ^ s ≤ x) : s < m * l := h.ws.lo hs
theorem u256_rg {a3 a2 a1 a0 : Int} (h3 : 0 ≤ a3 ∧ a3 < 18446744073709551616) (h2 : 0 ≤ a2 ∧ a2 < 18446744073709551616) (h1 : 0 ≤ a1 ∧ a1 < 18446744073709551616) (h0 : 0 ≤ a0 ∧ a0 < 18446744073709551616) :
    0 ≤ u256 a3 a2 a1 a0 ∧ u256 a3 a2 a1 a0 < 115792089237316195423570985008687907853269984665640564039457584007913129639936 := by
  unfold u256; omega
theorem wz_rg {a3 a2 a1 a0 : Int} (h3 : 0 ≤ a3 ∧ a3 < 18446744073709551616) (h2 : 0 ≤ a2 ∧ a2 < 18446744073709551616) (h1 : 0 ≤ a1 ∧ a1 < 18446744073709551616) (h0 : 0 ≤ a0 ∧ a0 < 18446744073709551616) :
    -57896044618658097711785492504343953926634992332820282019728792003956564819968 ≤ wz a3 a2 a1 a0 ∧ wz a3 a2 a1 a0 < 57896044618658097711785492504343953926634992332820282019728792003956564819968 := by
  unfold wz u256
  split <;> omega
theorem wz_lt {a3 a2 a1 a0 : Int} (h3 : 0 ≤ a3 ∧ a3 < 18446744073709551616) (h2 : 0 ≤ a2 ∧ a2 < 18446744073709551616) (h1 : 0 ≤ a1 ∧ a1 < 18446744073709551616) (h0 : 0 ≤ a0 ∧ a0 < 18446744073709551616) : (wz a3 a2 a1 a0).natAbs < 2 ^ 256 := by
  have := wz_rg h3 h2 h1 h0
  have e : (2 : Nat) ^ 256 = 115792089237316195423570985008687907853269984665640564039457584007913129639936 := by decide
  omega
theorem val8 (a3 a2 a1 a0 : Int) : valB (2 ^ 32) [a0 % 4294967296, a0 / 4294967296 % 4294967296, a1 % 4294967296, a1 / 4294967296 % 4294967296, a2 % 4294967296, a2 / 4294967296 % 4294967296, a3 % 4294967296, a3 / 4294967296 % 4294967296] =
    u256 (a3 % 18446744073709551616) (a2 % 18446744073709551616) (a1 % 18446744073709551616) (a0 % 18446744073709551616) := by
  have e : (2 : Int) ^ 32 = 4294967296 := by decide
  rw [e]
  simp only [valB, u256]
  omega
theorem wz_lo32 {a3 a2 a1 a0 : Int} (h3 : 0 ≤ a3 ∧ a3 < 18446744073709551616) (h2 : 0 ≤ a2 ∧ a2 < 18446744073709551616) (h1 : 0 ≤ a1 ∧ a1 < 18446744073709551616) (h0 : 0 ≤ a0 ∧ a0 < 18446744073709551616) (h : a3 / 9223372036854775808 = 0) :
    sg false (valB (2 ^ 32) [a0 % 4294967296, a0 / 4294967296 % 4294967296, a1 % 4294967296, a1 / 4294967296 % 4294967296, a2 % 4294967296, a2 / 4294967296 % 4294967296, a3 % 4294967296, a3 / 4294967296 % 4294967296]) = wz a3 a2 a1 a0 := by
  rw [val8, Int.emod_eq_of_lt h3.1 h3.2, Int.emod_eq_of_lt h2.1 h2.2, Int.emod_eq_of_lt h1.1 h1.2, Int.emod_eq_of_lt h0.1 h0.2]
  simp [sg, wz, h]
theorem wz_hi32 {a3 a2 a1 a0 : Int} (h3 : 0 ≤ a3 ∧ a3 < 18446744073709551616) (h2 : 0 ≤ a2 ∧ a2 < 18446744073709551616) (h1 : 0 ≤ a1 ∧ a1 < 18446744073709551616) (h0 : 0 ≤ a0 ∧ a0 < 18446744073709551616) (h : ¬ a3 / 9223372036854775808 = 0) :
    sg true (2 ^ 256 * valB (2 ^ 32) [1] - valB (2 ^ 32) [a0 % 4294967296, a0 / 4294967296 % 4294967296, a1 % 4294967296, a1 / 4294967296 % 4294967296, a2 % 4294967296, a2 / 4294967296 % 4294967296, a3 % 4294967296, a3 / 4294967296 % 4294967296]) = wz a3 a2 a1 a0 := by
  rw [val8, Int.emod_eq_of_lt h3.1 h3.2, Int.emod_eq_of_lt h2.1 h2.2, Int.emod_eq_of_lt h1.1 h1.2, Int.emod_eq_of_lt h0.1 h0.2]
  have e : (2 : Int) ^ 256 = 115792089237316195423570985008687907853269984665640564039457584007913129639936 := by decide
  rw [e]
  simp [sg, wz, h, valB]
  omega
theorem u64_rg {x : Int} (h : IntKind.u64.has x) : 0 ≤ x ∧ x < 18446744073709551616 := by
  simp [IntKind.has, IntKind.min, IntKind.max, IntKind.signed, IntKind.bits] at h
  omega
end Go.Proofs.Ytpnjkjahfklfnaa.Fw
