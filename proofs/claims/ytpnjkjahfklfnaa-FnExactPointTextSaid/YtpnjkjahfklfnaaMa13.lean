/- Steps of the loops of division: plain mathematics. -/
import Derived.Test.YtpnjkjahfklfnaaMa12
set_option linter.unusedVariables false
set_option linter.unusedSimpArgs false
namespace Go.Proofs.Ytpnjkjahfklfnaa.Fw
/-! ### Steps of the division's loops -/
theorem shl_mod {x : Int} {S : Nat} (hS : S ≤ 64) : x * 2 ^ S % 18446744073709551616 % 2 ^ S = 0 := by
  have e : (18446744073709551616 : Int) = 2 ^ S * 2 ^ (64 - S) := by rw [← Int.pow_add, show S + (64 - S) = 64 by omega]; decide
  rw [e, Int.emod_emod_of_dvd _ (Int.dvd_mul_right _ _)]
  exact Int.mul_emod_left _ _
theorem shf_T {xs L : List Int} {i S : Nat} {x lo c : Int} (hS : S ≤ 63) (hi : i < xs.length) (hl : L.length = xs.length + 1) (hok : okW (2 ^ 64) L) (hv : valB (2 ^ 64) L = 2 ^ S * valB (2 ^ 64) (xs.take i)) (hz : ∀ q, i < q → L.getD q 0 = 0)
    (hb : L.getD i 0 < 2 ^ S) (hx : x = xs.getD i 0) (hx0 : 0 ≤ x) (hx1 : x < 18446744073709551616) (hlo : lo = x * 2 ^ S % 18446744073709551616) (hc : c = x / 2 ^ (64 - S)) :
    ((L.set i (L.getD i 0 + lo)).set (i + 1) c).length = xs.length + 1 ∧ okW (2 ^ 64) ((L.set i (L.getD i 0 + lo)).set (i + 1) c) ∧ valB (2 ^ 64) ((L.set i (L.getD i 0 + lo)).set (i + 1) c) = 2 ^ S * valB (2 ^ 64) (xs.take (i + 1)) ∧
    (∀ q, i + 1 < q → ((L.set i (L.getD i 0 + lo)).set (i + 1) c).getD q 0 = 0) ∧ ((L.set i (L.getD i 0 + lo)).set (i + 1) c).getD (i + 1) 0 < 2 ^ S := by
  have h1 := shl_split (x := x) (S := S) (by omega)
  have h2 := shl_mod (x := x) (S := S) (by omega)
  have g := hok.getD (by decide) i
  have hc0 : 0 ≤ c := by rw [hc]; exact Int.ediv_nonneg hx0 (Int.le_of_lt (two_pos _))
  have hc1 : c < 2 ^ S := by
    rw [hc]
    refine Int.ediv_lt_of_lt_mul (two_pos _) ?_
    rw [← Int.pow_add, show S + (64 - S) = 64 by omega]
    exact hx1
  have hp := two_pos S
  have hp2 : (2 : Int) ^ S ≤ 2 ^ 63 := pow_le_of (by decide) hS
  have e63 : (2 : Int) ^ 63 = 9223372036854775808 := by decide
  have e64 : (2 : Int) ^ 64 = 18446744073709551616 := by decide
  have hlo0 : 0 ≤ lo := by omega
  have hlo1 : lo + 2 ^ S ≤ 18446744073709551616 := by
    have e : (18446744073709551616 : Int) = 2 ^ S * 2 ^ (64 - S) := by rw [← Int.pow_add, show S + (64 - S) = 64 by omega]; decide
    obtain ⟨t, ht⟩ := Int.dvd_of_emod_eq_zero h2
    rw [hlo, ht]
    have h3 : 2 ^ S * t < 2 ^ S * 2 ^ (64 - S) := by rw [← e, ← ht]; omega
    have h4 : t < 2 ^ (64 - S) := Int.lt_of_mul_lt_mul_left h3 (Int.le_of_lt hp)
    have h5 : 2 ^ S * (t + 1) ≤ 2 ^ S * 2 ^ (64 - S) := Int.mul_le_mul_of_nonneg_left h4 (Int.le_of_lt hp)
    rw [e]
    rw [Int.mul_add, Int.mul_one] at h5
    exact h5
  refine ⟨by simp [hl], (hok.set (by omega) (by omega) _).set hc0 (by omega) _, ?_, fun q hq => ?_, ?_⟩
  · exact shf_step (by omega) hv hx (hz _ (by omega)) (by rw [hlo, hc, e64]; omega)
  · rw [getD_set_ne _ _ _ _ (by omega), getD_set_ne _ _ _ _ (by omega)]
    exact hz q (by omega)
  · rw [getD_set_eq _ _ _ (by simp; omega)]
    exact hc1
theorem shf_F {xs L : List Int} {i S : Nat} {x lo : Int} (hS : S = 0) (hi : i < xs.length) (hl : L.length = xs.length + 1) (hok : okW (2 ^ 64) L) (hv : valB (2 ^ 64) L = 2 ^ S * valB (2 ^ 64) (xs.take i)) (hz : ∀ q, i < q → L.getD q 0 = 0)
    (hb : L.getD i 0 < 2 ^ S) (hx : x = xs.getD i 0) (hx0 : 0 ≤ x) (hx1 : x < 18446744073709551616) (hlo : lo = x * 2 ^ S % 18446744073709551616) :
    (L.set i (L.getD i 0 + lo)).length = xs.length + 1 ∧ okW (2 ^ 64) (L.set i (L.getD i 0 + lo)) ∧ valB (2 ^ 64) (L.set i (L.getD i 0 + lo)) = 2 ^ S * valB (2 ^ 64) (xs.take (i + 1)) ∧
    (∀ q, i + 1 < q → (L.set i (L.getD i 0 + lo)).getD q 0 = 0) ∧ (L.set i (L.getD i 0 + lo)).getD (i + 1) 0 < 2 ^ S := by
  subst hS
  have e64 : (2 : Int) ^ 64 = 18446744073709551616 := by decide
  have e0 : (2 : Int) ^ 0 = 1 := by decide
  have g := hok.getD (by decide) i
  rw [e0, Int.mul_one, Int.emod_eq_of_lt hx0 hx1] at hlo
  rw [e0] at hb hv ⊢
  refine ⟨by simp [hl], hok.set (by omega) (by omega) _, ?_, fun q hq => ?_, ?_⟩
  · exact shf_step0 (by omega) hv hx (by omega)
  · rw [getD_set_ne _ _ _ _ (by omega)]
    exact hz q (by omega)
  · rw [getD_set_ne _ _ _ _ (by omega), hz _ (by omega)]
    decide
/-- One word divided by one: the digits from the top. -/
theorem one_step {y r x q r2 : Int} {xs L : List Int} {n : Nat} (h0 : 0 < n) (hx : n ≤ xs.length) (hL : n ≤ L.length) (h : valB (2 ^ 64) (xs.drop n) = y * valB (2 ^ 64) (L.drop n) + r) (hxe : x = xs.getD (n - 1) 0) (hq : q * y + r2 = r * 18446744073709551616 + x) :
    valB (2 ^ 64) (xs.drop (n - 1)) = y * valB (2 ^ 64) ((L.set (n - 1) q).drop (n - 1)) + r2 := by
  have e64 : (2 : Int) ^ 64 = 18446744073709551616 := by decide
  rw [val_drop xs (n - 1) (by omega), val_drop (L.set (n - 1) q) (n - 1) (by simp; omega), getD_set_eq _ _ _ (by omega), show n - 1 + 1 = n by omega, List.drop_set_of_lt (by omega), h, ← hxe]
  rw [e64]
  have : y * (q + 18446744073709551616 * valB 18446744073709551616 (List.drop n L)) = q * y + 18446744073709551616 * (y * valB 18446744073709551616 (List.drop n L)) := by grind
  rw [this]
  omega
theorem pos_of_mul {q v t : Int} (hq : 0 ≤ q) (hv : 0 ≤ v) (ht : 0 ≤ t) (h : t < q * v) : 1 ≤ q := by
  rcases Int.lt_or_le 0 q with h1 | h1
  · omega
  · have : q = 0 := by omega
    subst this
    omega
/-- A word of the rest moved down. -/
theorem shr_word {u h : Int} {S : Nat} (hS : S ≤ 63) (hu0 : 0 ≤ u) (hu1 : u < 18446744073709551616) (hh : 0 ≤ h) : (u + 18446744073709551616 * h) / 2 ^ S % 18446744073709551616 = u / 2 ^ S + h * 2 ^ (64 - S) % 18446744073709551616 ∧
    0 ≤ u / 2 ^ S ∧ u / 2 ^ S < 2 ^ (64 - S) := by
  have e : (18446744073709551616 : Int) = 2 ^ S * 2 ^ (64 - S) := by rw [← Int.pow_add, show S + (64 - S) = 64 by omega]; decide
  have hp := two_pos S
  have d0 : 0 ≤ u / 2 ^ S := Int.ediv_nonneg hu0 (Int.le_of_lt hp)
  have d1 : u / 2 ^ S < 2 ^ (64 - S) := Int.ediv_lt_of_lt_mul hp (by rw [← Int.pow_add, show 64 - S + S = 64 by omega]; exact hu1)
  refine ⟨?_, d0, d1⟩
  have e1 : (u + 18446744073709551616 * h) / 2 ^ S = u / 2 ^ S + h * 2 ^ (64 - S) := by
    rw [e, show u + 2 ^ S * 2 ^ (64 - S) * h = u + 2 ^ S * (h * 2 ^ (64 - S)) by grind, Int.add_mul_ediv_left _ _ (Int.ne_of_gt hp)]
  rw [e1]
  have h2 := shl_mod (x := h) (S := 64 - S) (by omega)
  have m0 := Int.emod_nonneg (h * 2 ^ (64 - S)) (show (18446744073709551616 : Int) ≠ 0 by decide)
  have m1 := Int.emod_lt_of_pos (h * 2 ^ (64 - S)) (show (0 : Int) < 18446744073709551616 by decide)
  have hlt : h * 2 ^ (64 - S) % 18446744073709551616 + 2 ^ (64 - S) ≤ 18446744073709551616 := by
    obtain ⟨t, ht⟩ := Int.dvd_of_emod_eq_zero h2
    rw [ht] at m1 ⊢
    have hp2 := two_pos (64 - S)
    have e' : (18446744073709551616 : Int) = 2 ^ (64 - S) * 2 ^ S := by rw [e]; exact Int.mul_comm _ _
    rw [e'] at m1 ⊢
    have h4 : t < 2 ^ S := Int.lt_of_mul_lt_mul_left m1 (Int.le_of_lt hp2)
    have h5 : 2 ^ (64 - S) * (t + 1) ≤ 2 ^ (64 - S) * 2 ^ S := Int.mul_le_mul_of_nonneg_left h4 (Int.le_of_lt hp2)
    rw [Int.mul_add, Int.mul_one] at h5
    exact h5
  rw [Int.add_emod, Int.emod_eq_of_lt d0 (by omega : u / 2 ^ S < 18446744073709551616)]
  exact Int.emod_eq_of_lt (by omega) (by omega)
theorem shr_pt {M U : List Int} {i S : Nat} {z : Int} (hi : i < U.length) (hl : M.length = U.length) (hz : z = (U.getD i 0 + 18446744073709551616 * U.getD (i + 1) 0) / 2 ^ S % 18446744073709551616)
    (h : ∀ k, k < U.length → M.getD k 0 = if k < i then (U.getD k 0 + 18446744073709551616 * U.getD (k + 1) 0) / 2 ^ S % 18446744073709551616 else U.getD k 0) :
    ∀ k, k < U.length → (M.set i z).getD k 0 = if k < i + 1 then (U.getD k 0 + 18446744073709551616 * U.getD (k + 1) 0) / 2 ^ S % 18446744073709551616 else U.getD k 0 := by
  intro k hk
  by_cases hki : k = i
  · subst hki
    rw [getD_set_eq _ _ _ (by omega), if_pos (by omega), hz]
  · rw [getD_set_ne _ _ _ _ (by omega), h k hk]
    by_cases h1 : k < i
    · rw [if_pos h1, if_pos (by omega)]
    · rw [if_neg h1, if_neg (by omega)]
theorem shr_end {M U : List Int} {t S : Nat} (hS : S ≤ 63) (ho : okW (2 ^ 64) U) (ht : t ≤ U.length) (hl : M.length = U.length) (h0 : ∀ k, t ≤ k → U.getD k 0 = 0)
    (h : ∀ k, k < U.length → M.getD k 0 = if k < t then (U.getD k 0 + 18446744073709551616 * U.getD (k + 1) 0) / 2 ^ S % 18446744073709551616 else U.getD k 0) :
    valB (2 ^ 64) (M.take t) = valB (2 ^ 64) U / 2 ^ S ∧ okW (2 ^ 64) (M.take t) := by
  have e64 : (2 : Int) ^ 64 = 18446744073709551616 := by decide
  have e : (2 : Int) ^ 64 = 2 ^ S * 2 ^ (64 - S) := by rw [← Int.pow_add, show S + (64 - S) = 64 by omega]
  have heq : M.take t = shrL (2 ^ 64) (2 ^ S) (U.take t) := by
    apply List.ext_getElem
    · rw [shrL_len]; simp; omega
    · intro k h1 h2
      have hk : k < t := by simp at h1; omega
      have e1 : (M.take t)[k] = (M.take t).getD k 0 := by rw [List.getD_eq_getElem?_getD, List.getElem?_eq_getElem h1]; rfl
      have e2 : (shrL (2 ^ 64) (2 ^ S) (U.take t))[k] = (shrL (2 ^ 64) (2 ^ S) (U.take t)).getD k 0 := by rw [List.getD_eq_getElem?_getD, List.getElem?_eq_getElem h2]; rfl
      rw [e1, e2, getD_take _ _ _ hk, h k (by omega), if_pos hk, shrL_getD _ _ _ _ (by simp; omega), getD_take _ _ _ hk, e64]
      congr 4
      by_cases hk2 : k + 1 < t
      · rw [getD_take _ _ _ hk2]
      · rw [h0 _ (by omega), getD_ge _ _ (by simp; omega)]
  refine ⟨?_, ?_⟩
  · rw [heq]
    have h3 := shrL_val (p := 2 ^ S) (m := 2 ^ (64 - S)) (two_pos _) (two_pos _) (xs := U.take t) (by rw [← e]; exact ho.take _)
    rw [← e] at h3
    rw [h3, val_take_zero h0]
  · intro x hx
    obtain ⟨k, hk, rfl⟩ := List.getElem_of_mem hx
    have hkt : k < t := by simp at hk; omega
    have e1 : (M.take t)[k] = (M.take t).getD k 0 := by rw [List.getD_eq_getElem?_getD, List.getElem?_eq_getElem hk]; rfl
    rw [e1, getD_take _ _ _ hkt, h k (by omega), if_pos hkt, e64]
    exact ⟨Int.emod_nonneg _ (by decide), Int.emod_lt_of_pos _ (by decide)⟩
theorem trim_zero {xs : List Int} : ∀ k, (trimL xs).length ≤ k → k < xs.length → xs.getD k 0 = 0 := by
  have gen : ∀ (n : Nat) (xs : List Int), xs.length = n → ∀ k, (trimL xs).length ≤ k → k < xs.length → xs.getD k 0 = 0 := by
    intro n
    induction n with
    | zero => intro xs hl k _ hk; omega
    | succ n ih =>
      intro xs hl k h1 h2
      have hs := list_snoc xs (by omega)
      generalize hys : xs.take (xs.length - 1) = ys at hs
      generalize hy : xs.getD (xs.length - 1) 0 = y at hs
      have hyl : ys.length = n := by rw [← hys]; simp; omega
      subst hs
      by_cases hy0 : y = 0
      · subst hy0
        rw [trimL_snoc_zero] at h1
        by_cases hk : k < ys.length
        · have := ih ys hyl k h1 hk
          rw [List.getD_eq_getElem?_getD, List.getElem?_append_left hk, ← List.getD_eq_getElem?_getD]
          exact this
        · have : k = ys.length := by simp at h2; omega
          subst this
          simp
      · rw [trimL_snoc _ hy0] at h1
        omega
  exact gen _ xs rfl
/-- All that the loops over the divisor need of its words. -/
theorem val_len {xs : List Int} (ho : okW (2 ^ 64) xs) {m : Nat} (hl : xs.length = m) : valB (2 ^ 64) xs < (2 ^ 64) ^ m := by
  have := valB_lt (B := 2 ^ 64) (by decide) ho
  rwa [hl] at this
theorem norm_lt {x top : Int} {xs : List Int} {S k : Nat} (hS63 : S ≤ 63) (ho : okW (2 ^ 64) xs) (hl : xs.length = k + 1) (ht : top = xs.getD k 0) (hS : top * 2 ^ S < 18446744073709551616) (hx : x = valB (2 ^ 64) xs) : 2 ^ S * x < (2 ^ 64) ^ (k + 1) := by
  have h1 := (val_lo (B := 2 ^ 64) (by decide) ho k (by omega)).2
  rw [val_drop xs k (by omega), List.drop_eq_nil_of_le (by omega : xs.length ≤ k + 1)] at h1
  simp only [valB, Int.mul_zero, Int.add_zero] at h1
  rw [← ht, ← hx] at h1
  have hp := two_pos S
  have e64 : (2 : Int) ^ 64 = 18446744073709551616 := by decide
  have hdiv : (2 : Int) ^ S * (top + 1) ≤ 18446744073709551616 := by
    have e1 : top * 2 ^ S = 2 ^ S * top := Int.mul_comm _ _
    have h0 : 0 ≤ top := by rw [ht]; exact (ho.getD (by decide) k).1
    have e : (18446744073709551616 : Int) = 2 ^ S * 2 ^ (64 - S) := by rw [← Int.pow_add, show S + (64 - S) = 64 by omega]; decide
    rw [e1, e] at hS
    have h4 : top < 2 ^ (64 - S) := Int.lt_of_mul_lt_mul_left hS (Int.le_of_lt hp)
    rw [e]
    exact Int.mul_le_mul_of_nonneg_left h4 (Int.le_of_lt hp)
  have h2 : 2 ^ S * x < 2 ^ S * ((2 ^ 64) ^ k * (top + 1)) := Int.mul_lt_mul_of_pos_left h1 hp
  have h3 : (2 : Int) ^ S * ((2 ^ 64) ^ k * (top + 1)) = (2 ^ 64) ^ k * (2 ^ S * (top + 1)) := by grind
  have h4 : ((2 : Int) ^ 64) ^ k * (2 ^ S * (top + 1)) ≤ (2 ^ 64) ^ k * 18446744073709551616 := Int.mul_le_mul_of_nonneg_left hdiv (Int.le_of_lt (pw_pos (by decide) k))
  rw [Int.pow_succ ((2 : Int) ^ 64) k, e64]
  rw [e64] at h2 h3 h4
  omega
end Go.Proofs.Ytpnjkjahfklfnaa.Fw
