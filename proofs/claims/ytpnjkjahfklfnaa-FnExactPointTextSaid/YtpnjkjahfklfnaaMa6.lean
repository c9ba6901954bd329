/- Products of words, in plain Lean. -/
import Derived.Test.YtpnjkjahfklfnaaMa5
set_option linter.unusedVariables false
namespace Go.Proofs.Ytpnjkjahfklfnaa.Fw
open Go
theorem mul_pos_bd {a b A : Int} (h0 : 0 ≤ a) (h1 : a ≤ A) (h2 : 0 ≤ b) (h3 : b ≤ A) : 0 ≤ a * b ∧ a * b ≤ A * A :=
  ⟨Int.mul_nonneg h0 h2, (mul_bd (by omega) h1 (by omega) h3).2⟩
theorem mul_step {B : Int} {ys M : List Int} {i k : Nat} {c c2 z V x y o : Int} (hj : i + k < M.length) (h : valB B M + c * B ^ (i + k) = V + x * valB B (ys.take k) * B ^ i) (hy : y = ys.getD k 0) (ho : o = M.getD (i + k) 0) (hz : z + B * c2 = c + x * y + o) :
    valB B (M.set (i + k) z) + c2 * B ^ (i + (k + 1)) = V + x * valB B (ys.take (k + 1)) * B ^ i := by
  subst hy; subst ho
  rw [valB_set _ _ _ hj, valB_take_succ', ← Nat.add_assoc, Int.pow_succ]
  have e1 : B ^ (i + k) * (z + B * c2) = B ^ (i + k) * (c + x * ys.getD k 0 + M.getD (i + k) 0) := by rw [hz]
  simp only [Int.mul_add, Int.mul_sub] at e1 ⊢
  have e2 : c2 * (B ^ (i + k) * B) = B ^ (i + k) * (B * c2) := by rw [Int.mul_comm c2, Int.mul_assoc]
  have e3 : c * B ^ (i + k) = B ^ (i + k) * c := Int.mul_comm _ _
  have e4 : (x * valB B (ys.take k) + x * (B ^ k * ys.getD k 0)) * B ^ i = x * valB B (ys.take k) * B ^ i + B ^ (i + k) * (x * ys.getD k 0) := by
    rw [Int.add_mul, Int.pow_add]
    congr 1
    ac_rfl
  rw [e4]
  omega
theorem mul_last {B : Int} {xs ys M : List Int} {i : Nat} {c : Int} (hj : i + ys.length < M.length) (hz : M.getD (i + ys.length) 0 = 0) (h : valB B M + c * B ^ (i + ys.length) = valB B (xs.take i) * valB B ys + xs.getD i 0 * valB B (ys.take ys.length) * B ^ i) :
    valB B (M.set (i + ys.length) c) = valB B (xs.take (i + 1)) * valB B ys := by
  rw [valB_set _ _ _ hj, hz, valB_take_succ', Int.sub_zero, Int.add_mul]
  rw [List.take_length] at h
  have e3 : c * B ^ (i + ys.length) = B ^ (i + ys.length) * c := Int.mul_comm _ _
  have e4 : B ^ i * xs.getD i 0 * valB B ys = xs.getD i 0 * valB B ys * B ^ i := by ac_rfl
  omega
theorem zero_set {M : List Int} {n j : Nat} {z : Int} (h : ∀ q, n ≤ q → M.getD q 0 = 0) (hj : j < n) : ∀ q, n ≤ q → (M.set j z).getD q 0 = 0 := by
  intro q hq
  rw [getD_set_ne _ _ _ _ (by omega)]
  exact h q hq
theorem zero_set1 {M : List Int} {n : Nat} {z : Int} (h : ∀ q, n ≤ q → M.getD q 0 = 0) : ∀ q, n + 1 ≤ q → (M.set n z).getD q 0 = 0 := by
  intro q hq
  rw [getD_set_ne _ _ _ _ (by omega)]
  exact h q (by omega)
theorem mul_start {B V x : Int} {ys M : List Int} {i : Nat} (h : valB B M = V) : valB B M + 0 * B ^ (i + 0) = V + x * valB B (ys.take 0) * B ^ i := by
  rw [h, List.take_zero]
  simp [valB]
theorem mul_zero_of {x y : Int} (h : x = 0 ∨ y = 0) : x * y = 0 := by rcases h with rfl | rfl <;> simp
theorem nat_mul_sz {x y s t : Nat} (h : x < 2 ^ s) (h2 : y < 2 ^ t) : x * y < 2 ^ (s + t) := by
  rw [Nat.pow_add]
  exact Nat.mul_lt_mul_of_lt_of_lt h h2
theorem rep_zero (n q : Nat) : (List.replicate n (0 : Int)).getD q 0 = 0 := by
  simp only [List.getD_eq_getElem?_getD, List.getElem?_replicate]
  split <;> rfl
end Go.Proofs.Ytpnjkjahfklfnaa.Fw
