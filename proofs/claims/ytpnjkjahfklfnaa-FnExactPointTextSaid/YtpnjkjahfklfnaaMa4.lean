/- Binary digits, in plain Lean. -/
import Derived.Test.YtpnjkjahfklfnaaMa3
import Derived.Lib.ItoaNum
set_option linter.unusedVariables false
namespace Go.Proofs.Ytpnjkjahfklfnaa.Fw
open Go
/-- How many binary digits. -/
def nbits (x : Nat) : Nat := if x = 0 then 0 else x.log2 + 1
theorem nbits_zero : nbits 0 = 0 := rfl
theorem nbits_lt (x : Nat) : x < 2 ^ nbits x := by
  unfold nbits
  by_cases h : x = 0
  · simp [h]
  · rw [if_neg h]; exact Nat.lt_log2_self
theorem nbits_le {x : Nat} (h : x ≠ 0) : 2 ^ (nbits x - 1) ≤ x := by
  unfold nbits
  rw [if_neg h]
  exact Nat.log2_self_le h
theorem nbits_pos {x : Nat} (h : x ≠ 0) : 0 < nbits x := by unfold nbits; rw [if_neg h]; omega
theorem nbits_of {x b : Nat} (h0 : x ≠ 0) (h1 : x < 2 ^ b) (h2 : 2 ^ (b - 1) ≤ x) : nbits x = b := by
  have h3 := nbits_lt x
  have h4 := nbits_le h0
  have hp := nbits_pos h0
  have a1 : nbits x - 1 < b := (Nat.pow_lt_pow_iff_right (a := 2) (by decide)).1 (by omega)
  have a2 : b - 1 < nbits x := (Nat.pow_lt_pow_iff_right (a := 2) (by decide)).1 (by omega)
  have hb : 0 < b := by
    rcases Nat.eq_zero_or_pos b with h | h
    · subst h; simp at h1; omega
    · exact h
  omega
theorem nbits_bitLen {x : Nat} (h : x < 18446744073709551616) : Lib.bitLen x = nbits x := by
  by_cases h0 : x = 0
  · subst h0; rfl
  · have := Lib.bitLenAux_bounds 64 x h h0
    exact (nbits_of h0 this.2.2 this.2.1).symm
theorem nbits_le_iff {x b : Nat} : nbits x ≤ b ↔ x < 2 ^ b := by
  constructor
  · intro h
    exact Nat.lt_of_lt_of_le (nbits_lt x) (Nat.pow_le_pow_right (by decide) h)
  · intro h
    by_cases h0 : x = 0
    · subst h0; exact Nat.zero_le _
    · have := nbits_le h0
      have hp := nbits_pos h0
      have a1 : nbits x - 1 < b := (Nat.pow_lt_pow_iff_right (a := 2) (by decide)).1 (by omega)
      omega
theorem nbits_half {x : Nat} (h : x ≠ 0) : nbits x = nbits (x / 2) + 1 := by
  unfold nbits
  rw [if_neg h, Nat.log2_def]
  by_cases h1 : x / 2 = 0
  · rw [if_pos h1, if_neg (by omega)]
  · rw [if_neg h1, if_pos (by omega)]
theorem nbits_top {m : Nat} {xs : List Int} (ho : okW (2 ^ m) xs) (hn : 0 < xs.length) (ht : 0 < xs.getD (xs.length - 1) 0) : nbits (valB (2 ^ m) xs).toNat = m * (xs.length - 1) + nbits (xs.getD (xs.length - 1) 0).toNat := by
  have e := list_snoc xs hn
  have hv : valB (2 ^ m) xs = valB (2 ^ m) (xs.take (xs.length - 1)) + (2 ^ m) ^ (xs.length - 1) * xs.getD (xs.length - 1) 0 := by
    have h1 := valB_take_succ (B := 2 ^ m) xs (xs.length - 1) (by omega)
    rw [Nat.sub_add_cancel hn, List.take_length] at h1
    exact h1
  have hlo := valB_nonneg (Int.le_of_lt (two_pos m)) (ho.take (xs.length - 1))
  have hhi := valB_lt (Int.le_of_lt (two_pos m)) (ho.take (xs.length - 1))
  rw [List.length_take, Nat.min_eq_left (by omega)] at hhi
  generalize valB (2 ^ m) (xs.take (xs.length - 1)) = lo at *
  generalize xs.getD (xs.length - 1) 0 = t at *
  generalize valB (2 ^ m) xs = v at *
  obtain ⟨T, rfl⟩ := Int.eq_ofNat_of_zero_le (Int.le_of_lt ht)
  obtain ⟨L, rfl⟩ := Int.eq_ofNat_of_zero_le hlo
  have hp : ((2 : Int) ^ m) ^ (xs.length - 1) = ((2 ^ (m * (xs.length - 1)) : Nat) : Int) := by rw [← Int.pow_mul]; simp
  rw [hp] at hv hhi
  generalize hP : 2 ^ (m * (xs.length - 1)) = P at *
  have hv' : v.toNat = L + P * T := by
    rw [hv, ← Int.natCast_mul]
    omega
  have hL : L < P := by omega
  have hPp : 0 < P := by omega
  have hT0 : T ≠ 0 := by omega
  rw [hv']
  have h1 := nbits_lt T
  have h2 := nbits_le hT0
  have h3 := nbits_pos hT0
  simp only [Int.toNat_natCast]
  refine nbits_of (by have := Nat.mul_pos hPp (Nat.pos_of_ne_zero hT0); omega) ?_ ?_
  · rw [Nat.pow_add, hP]
    have : P * (T + 1) ≤ P * 2 ^ nbits T := Nat.mul_le_mul_left _ h1
    rw [Nat.mul_add] at this
    omega
  · rw [show m * (xs.length - 1) + nbits T - 1 = m * (xs.length - 1) + (nbits T - 1) by omega, Nat.pow_add, hP]
    have : P * 2 ^ (nbits T - 1) ≤ P * T := Nat.mul_le_mul_left _ h2
    omega
/-- The topmost word is not nought. -/
theorem canon_top {m : Nat} {xs : List Int} (ho : okW (2 ^ m) xs) (hc : canon xs) (hn : 0 < xs.length) : 0 < xs.getD (xs.length - 1) 0 := by
  have h1 := (ho.getD (two_pos m) (xs.length - 1)).1
  have h2 : xs.getD (xs.length - 1) 0 ≠ 0 := by
    intro h
    apply hc
    rw [List.getLast?_eq_getElem?]
    rw [List.getD_eq_getElem?_getD, List.getElem?_eq_getElem (by omega)] at h
    rw [List.getElem?_eq_getElem (by omega)]
    simpa using h
  omega
theorem nbits_len {m : Nat} {xs : List Int} (ho : okW (2 ^ m) xs) : nbits (valB (2 ^ m) xs).toNat ≤ m * xs.length := by
  refine nbits_le_iff.2 ?_
  have h1 := valB_sz ho rfl
  have h2 := valB_nonneg (Int.le_of_lt (two_pos m)) ho
  have e : ((2 ^ (m * xs.length) : Nat) : Int) = 2 ^ (m * xs.length) := by simp
  omega
theorem cmp_lt {x y : Int} (h : x < y) : cmpR (-1) x y := by unfold cmpR; omega
theorem cmp_gt {x y : Int} (h : y < x) : cmpR 1 x y := by unfold cmpR; omega
theorem cmpR.gt {r x y : Int} (h : cmpR r x y) : 0 < r ↔ y < x := by unfold cmpR at h; omega
theorem cmp_len32 {xs ys : List Int} (hx : okW (2 ^ 32) xs) (hy : okW (2 ^ 32) ys) (cx : canon xs) (cy : canon ys) (h : (xs.length : Int) ≠ ys.length) (h2 : xs.length < ys.length) : cmpR (-1) (valB (2 ^ 32) xs) (valB (2 ^ 32) ys) :=
  cmp_lt (lt_of_len (by decide) hx hy cy h2)
theorem cmp_len32' {xs ys : List Int} (hx : okW (2 ^ 32) xs) (hy : okW (2 ^ 32) ys) (cx : canon xs) (cy : canon ys) (h2 : ys.length < xs.length) : cmpR 1 (valB (2 ^ 32) xs) (valB (2 ^ 32) ys) :=
  cmp_gt (lt_of_len (by decide) hy hx cx h2)
theorem len_le32 {T : Nat} {k : IntKind} {w w' : World} {A D : Option Addr} {l c l' d : Nat} {x y : Int} (h : Wc 32 T k w A l c x) (h' : Wc 32 T k w' D l' d y) (hle : y ≤ x) : l' ≤ l := by
  obtain ⟨xs, rfl, hc, hw, ho, hk, rfl⟩ := h
  obtain ⟨ys, rfl, hc', hw', ho', hk', rfl⟩ := h'
  rcases Nat.lt_or_ge xs.length ys.length with h | h
  · have := lt_of_len (B := 2 ^ 32) (by decide) ho ho' hk' h
    omega
  · exact h
end Go.Proofs.Ytpnjkjahfklfnaa.Fw
