/- Division: what its loops keep, plain mathematics. -/
import Derived.Test.YtpnjkjahfklfnaaMa6
set_option linter.unusedVariables false
set_option linter.unusedSimpArgs false
namespace Go.Proofs.Ytpnjkjahfklfnaa.Fw
theorem val_at {B : Int} (xs : List Int) (k : Nat) (h : k ≤ xs.length) : valB B xs = valB B (xs.take k) + B ^ k * valB B (xs.drop k) := by
  have := valB_split (B := B) xs k
  rwa [Nat.min_eq_left h] at this
theorem val_drop {B : Int} (xs : List Int) (i : Nat) (h : i < xs.length) : valB B (xs.drop i) = xs.getD i 0 + B * valB B (xs.drop (i + 1)) := by
  rw [List.drop_eq_getElem_cons h, valB, List.getD_eq_getElem?_getD, List.getElem?_eq_getElem h]
  rfl
theorem val_lo {B : Int} (hB : 0 < B) {xs : List Int} (ho : okW B xs) (k : Nat) (h : k ≤ xs.length) : B ^ k * valB B (xs.drop k) ≤ valB B xs ∧ valB B xs < B ^ k * (valB B (xs.drop k) + 1) := by
  have h1 := val_at (B := B) xs k h
  have h2 := valB_lt (Int.le_of_lt hB) (ho.take k)
  have h3 := valB_nonneg (Int.le_of_lt hB) (ho.take k)
  rw [List.length_take, Nat.min_eq_left h] at h2
  rw [Int.mul_add]
  omega
theorem pw_pos {B : Int} (hB : 0 < B) (k : Nat) : 0 < B ^ k := Int.pow_pos hB
theorem zero_of_lt {B : Int} (hB : 0 < B) {xs : List Int} (ho : okW B xs) {m : Nat} (h : valB B xs < B ^ m) : ∀ k, m ≤ k → xs.getD k 0 = 0 := by
  intro k hk
  by_cases hl : k < xs.length
  · have h1 := (val_lo hB ho k (by omega)).1
    have h2 := val_drop (B := B) xs k hl
    have h3 := valB_nonneg (Int.le_of_lt hB) (ho.drop (k + 1))
    have h4 := (ho.getD hB k).1
    have h5 : 0 ≤ B * valB B (xs.drop (k + 1)) := Int.mul_nonneg (Int.le_of_lt hB) h3
    have h6 : B ^ m ≤ B ^ k := pow_le_of hB hk
    have hp := pw_pos hB k
    rcases Int.lt_or_le 0 (xs.getD k 0) with h7 | h7
    · have h8 : B ^ k * 1 ≤ B ^ k * valB B (xs.drop k) := Int.mul_le_mul_of_nonneg_left (by omega) (Int.le_of_lt hp)
      omega
    · omega
  · exact getD_ge _ _ (by omega)
theorem valB_zero {B : Int} : ∀ {xs : List Int}, (∀ k, xs.getD k 0 = 0) → valB B xs = 0 := by
  intro xs
  induction xs with
  | nil => intro _; rfl
  | cons x xs ih =>
    intro h
    have h0 := h 0
    have h1 := ih fun k => h (k + 1)
    simp at h0
    simp [valB, h0, h1]
theorem val_take_zero {B : Int} {xs : List Int} {m : Nat} (h : ∀ k, m ≤ k → xs.getD k 0 = 0) : valB B (xs.take m) = valB B xs := by
  by_cases hl : m ≤ xs.length
  · have h1 := val_at (B := B) xs m hl
    have h2 : valB B (xs.drop m) = 0 := valB_zero fun k => by
      have := h (m + k) (by omega)
      simpa [List.getD_eq_getElem?_getD] using this
    rw [h2] at h1
    simp at h1
    exact h1.symm
  · rw [List.take_of_length_le (by omega)]
theorem lt_of_zero {B : Int} (hB : 0 < B) {xs : List Int} (ho : okW B xs) {m : Nat} (h : ∀ k, m ≤ k → xs.getD k 0 = 0) : valB B xs < B ^ m := by
  rw [← val_take_zero (B := B) h]
  have h1 := valB_lt (Int.le_of_lt hB) (ho.take m)
  have h2 : B ^ (xs.take m).length ≤ B ^ m := pow_le_of hB (by simp; omega)
  omega
/-- Moved up by less than a word. -/
theorem shf_step {B p : Int} {xs O : List Int} {i : Nat} {x lo c : Int} (hl : i + 1 < O.length) (hv : valB B O = p * valB B (xs.take i)) (hx : x = xs.getD i 0) (h0 : O.getD (i + 1) 0 = 0) (hz : lo + B * c = x * p) :
    valB B ((O.set i (O.getD i 0 + lo)).set (i + 1) c) = p * valB B (xs.take (i + 1)) := by
  rw [valB_set _ _ _ (by simpa using hl), valB_set _ _ _ (by omega), getD_set_ne _ _ _ _ (by omega), h0, hv, valB_take_succ', ← hx, Int.pow_succ]
  have e : p * (B ^ i * x) = B ^ i * (lo + B * c) := by rw [hz]; grind
  rw [Int.mul_add, e]
  grind
theorem shf_step0 {B p : Int} {xs O : List Int} {i : Nat} {x lo : Int} (hl : i < O.length) (hv : valB B O = p * valB B (xs.take i)) (hx : x = xs.getD i 0) (hz : lo = x * p) :
    valB B (O.set i (O.getD i 0 + lo)) = p * valB B (xs.take (i + 1)) := by
  rw [valB_set _ _ _ hl, hv, valB_take_succ', ← hx, hz]
  grind
/-- A word taken away from the row: low, borrow. -/
theorem msub_step {B q X : Int} {M Vs : List Int} {i j : Nat} {c c2 bw bw2 lo m : Int} (hl : j + i < M.length) (hv : valB B M = X - q * valB B (Vs.take i) * B ^ j + (c + bw) * B ^ (j + i)) (hlo : lo + B * c2 = q * Vs.getD i 0 + c)
    (hm : m = M.getD (j + i) 0 - lo - bw + B * bw2) : valB B (M.set (j + i) m) = X - q * valB B (Vs.take (i + 1)) * B ^ j + (c2 + bw2) * B ^ (j + (i + 1)) := by
  rw [valB_set _ _ _ hl, hv, valB_take_succ', ← Nat.add_assoc, Int.pow_succ, Int.pow_add]
  have e : q * Vs.getD i 0 = lo + B * c2 - c := by omega
  have e2 : q * (valB B (Vs.take i) + B ^ i * Vs.getD i 0) * B ^ j = q * valB B (Vs.take i) * B ^ j + B ^ i * B ^ j * (q * Vs.getD i 0) := by grind
  rw [e2, e, hm]
  grind
theorem msub_top {B q W X : Int} {M : List Int} {n j : Nat} {c bw bw2 m : Int} (hl : j + n < M.length) (hv : valB B M = X - q * W * B ^ j + (c + bw) * B ^ (j + n)) (hm : m = M.getD (j + n) 0 - c - bw + B * bw2) :
    valB B (M.set (j + n) m) = X - q * W * B ^ j + bw2 * B ^ (j + n + 1) := by
  rw [valB_set _ _ _ hl, hv, Int.pow_succ, hm]
  grind
theorem madd_step {B X : Int} {M Vs : List Int} {i j : Nat} {c c2 m : Int} (hl : j + i < M.length) (hv : valB B M + c * B ^ (j + i) = X + valB B (Vs.take i) * B ^ j) (hm : m + B * c2 = M.getD (j + i) 0 + Vs.getD i 0 + c) :
    valB B (M.set (j + i) m) + c2 * B ^ (j + (i + 1)) = X + valB B (Vs.take (i + 1)) * B ^ j := by
  rw [valB_set _ _ _ hl, valB_take_succ', ← Nat.add_assoc, Int.pow_succ]
  have e : valB B M = X + valB B (Vs.take i) * B ^ j - c * B ^ (j + i) := by omega
  have e1 : m = M.getD (j + i) 0 + Vs.getD i 0 + c - B * c2 := by omega
  rw [e, e1, Int.pow_add]
  grind
theorem madd_top {B X W : Int} {M : List Int} {n j : Nat} {c c2 m : Int} (hl : j + n < M.length) (hv : valB B M + c * B ^ (j + n) = X + W * B ^ j) (hm : m + B * c2 = M.getD (j + n) 0 + 0 + c) :
    valB B (M.set (j + n) m) = X + W * B ^ j - c2 * B ^ (j + n + 1) := by
  rw [valB_set _ _ _ hl, Int.pow_succ]
  have e : valB B M = X + W * B ^ j - c * B ^ (j + n) := by omega
  have e1 : m = M.getD (j + n) 0 + c - B * c2 := by omega
  rw [e, e1]
  grind
/-- The two top words, from below. -/
theorem top_lo {B : Int} (hB : 0 < B) {V : List Int} (ho : okW B V) {k : Nat} (hl : V.length = k + 2) : (V.getD (k + 1) 0 * B + V.getD k 0) * B ^ k ≤ valB B V := by
  have h1 := (val_lo hB ho k (by omega)).1
  rw [val_drop V k (by omega), val_drop V (k + 1) (by omega), List.drop_eq_nil_of_le (by omega : V.length ≤ k + 1 + 1)] at h1
  simp only [valB] at h1
  have e : (V.getD (k + 1) 0 * B + V.getD k 0) * B ^ k = B ^ k * (V.getD k 0 + B * (V.getD (k + 1) 0 + B * 0)) := by grind
  rw [e]; exact h1
/-- The three top words, from above. -/
theorem top_hi {B : Int} (hB : 0 < B) {U : List Int} (ho : okW B U) {k : Nat} (hl : k + 2 < U.length) (hz : valB B U < B ^ (k + 3)) :
    valB B U < (U.getD (k + 2) 0 * B * B + U.getD (k + 1) 0 * B + U.getD k 0 + 1) * B ^ k := by
  have h1 := (val_lo hB ho k (by omega)).2
  have h2 : valB B (U.drop (k + 3)) = 0 := valB_zero fun i => by
    have := zero_of_lt hB ho hz (k + 3 + i) (by omega)
    simpa [List.getD_eq_getElem?_getD] using this
  rw [val_drop U k (by omega), val_drop U (k + 1) (by omega), val_drop U (k + 1 + 1) (by omega), h2] at h1
  have e : (U.getD (k + 2) 0 * B * B + U.getD (k + 1) 0 * B + U.getD k 0 + 1) * B ^ k = B ^ k * (U.getD k 0 + B * (U.getD (k + 1) 0 + B * (U.getD (k + 1 + 1) 0 + B * 0)) + 1) := by grind
  rw [e]; exact h1
/-- The first guess is not below the digit. -/
theorem guess {B : Int} (hB : 0 < B) {U V : List Int} (hU : okW B U) (hV : okW B V) {k j : Nat} {q r : Int} (hl : V.length = k + 2) (hu : j + (k + 2) < U.length) (hz : valB B U < valB B V * B ^ (j + 1))
    (hq : q * V.getD (k + 1) 0 + r = U.getD (j + (k + 2)) 0 * B + U.getD (j + (k + 1)) 0) (hr : r < V.getD (k + 1) 0) (hq0 : 0 ≤ q) : valB B U < (q + 1) * valB B V * B ^ j := by
  have hVl := valB_lt (Int.le_of_lt hB) hV
  rw [hl] at hVl
  have hpj := pw_pos hB (j + 1)
  have h0 : valB B U < B ^ (j + k + 3) := by
    have : valB B V * B ^ (j + 1) < B ^ (k + 2) * B ^ (j + 1) := Int.mul_lt_mul_of_pos_right hVl hpj
    have e : B ^ (j + k + 3) = B ^ (k + 2) * B ^ (j + 1) := by rw [← Int.pow_add]; congr 1; omega
    omega
  have h1 := top_hi hB hU (k := j + k) (by omega) h0
  have b0 := (hU.getD hB (j + k)).2
  have h2 := top_lo hB hV hl
  have v0 := (hV.getD hB k).1
  rw [show j + k + 2 = j + (k + 2) by omega, show j + k + 1 = j + (k + 1) by omega] at h1
  have hp := pw_pos hB (j + k)
  have h3 : U.getD (j + (k + 2)) 0 * B * B + U.getD (j + (k + 1)) 0 * B + U.getD (j + k) 0 + 1 ≤ (q + 1) * (V.getD (k + 1) 0 * B) := by
    have e1 : U.getD (j + (k + 2)) 0 * B * B + U.getD (j + (k + 1)) 0 * B = (q * V.getD (k + 1) 0 + r) * B := by rw [hq]; grind
    have e2 : (q + 1) * (V.getD (k + 1) 0 * B) = q * V.getD (k + 1) 0 * B + V.getD (k + 1) 0 * B := by grind
    have e3 : (r + 1) * B ≤ V.getD (k + 1) 0 * B := Int.mul_le_mul_of_nonneg_right (by omega) (Int.le_of_lt hB)
    rw [e1, e2, Int.add_mul]
    rw [Int.add_mul] at e3
    omega
  have h4 : (q + 1) * (V.getD (k + 1) 0 * B) * B ^ k ≤ (q + 1) * valB B V := by
    have : (V.getD (k + 1) 0 * B) * B ^ k ≤ valB B V := by
      have : (V.getD (k + 1) 0 * B) * B ^ k ≤ (V.getD (k + 1) 0 * B + V.getD k 0) * B ^ k := Int.mul_le_mul_of_nonneg_right (by omega) (Int.le_of_lt (pw_pos hB k))
      omega
    rw [Int.mul_assoc]
    exact Int.mul_le_mul_of_nonneg_left this (by omega)
  have h5 := Int.mul_le_mul_of_nonneg_right h3 (Int.le_of_lt hp)
  have h6 := Int.mul_le_mul_of_nonneg_right h4 (Int.le_of_lt (pw_pos hB j))
  have e : (q + 1) * (V.getD (k + 1) 0 * B) * B ^ (j + k) = (q + 1) * (V.getD (k + 1) 0 * B) * B ^ k * B ^ j := by rw [Int.pow_add]; grind
  rw [e] at h5
  omega
/-- A guess that the third word shows to be too high. -/
theorem guess_less {B : Int} (hB : 0 < B) {U V : List Int} (hU : okW B U) (hV : okW B V) {k j : Nat} {q r : Int} (hl : V.length = k + 2) (hu : j + (k + 2) < U.length) (hz : valB B U < valB B V * B ^ (j + 1))
    (hq : q * V.getD (k + 1) 0 + r = U.getD (j + (k + 2)) 0 * B + U.getD (j + (k + 1)) 0) (hq0 : 0 ≤ q) (hgt : r * B + U.getD (j + k) 0 < q * V.getD k 0) : valB B U < (q - 1 + 1) * valB B V * B ^ j := by
  have hVl := valB_lt (Int.le_of_lt hB) hV
  rw [hl] at hVl
  have hpj := pw_pos hB (j + 1)
  have h0 : valB B U < B ^ (j + k + 3) := by
    have : valB B V * B ^ (j + 1) < B ^ (k + 2) * B ^ (j + 1) := Int.mul_lt_mul_of_pos_right hVl hpj
    have e : B ^ (j + k + 3) = B ^ (k + 2) * B ^ (j + 1) := by rw [← Int.pow_add]; congr 1; omega
    omega
  have h1 := top_hi hB hU (k := j + k) (by omega) h0
  have h2 := top_lo hB hV hl
  rw [show j + k + 2 = j + (k + 2) by omega, show j + k + 1 = j + (k + 1) by omega] at h1
  have h3 : U.getD (j + (k + 2)) 0 * B * B + U.getD (j + (k + 1)) 0 * B + U.getD (j + k) 0 + 1 ≤ q * (V.getD (k + 1) 0 * B + V.getD k 0) := by
    have e1 : U.getD (j + (k + 2)) 0 * B * B + U.getD (j + (k + 1)) 0 * B = (q * V.getD (k + 1) 0 + r) * B := by rw [hq]; grind
    have e2 : q * (V.getD (k + 1) 0 * B + V.getD k 0) = (q * V.getD (k + 1) 0 + r) * B - r * B + q * V.getD k 0 := by grind
    omega
  have h4 : q * (V.getD (k + 1) 0 * B + V.getD k 0) * B ^ k ≤ q * valB B V := by
    rw [Int.mul_assoc]
    exact Int.mul_le_mul_of_nonneg_left h2 hq0
  have h5 := Int.mul_le_mul_of_nonneg_right h3 (Int.le_of_lt (pw_pos hB (j + k)))
  have h6 := Int.mul_le_mul_of_nonneg_right h4 (Int.le_of_lt (pw_pos hB j))
  have e : q * (V.getD (k + 1) 0 * B + V.getD k 0) * B ^ (j + k) = q * (V.getD (k + 1) 0 * B + V.getD k 0) * B ^ k * B ^ j := by rw [Int.pow_add]; grind
  rw [e] at h5
  rw [show q - 1 + 1 = q by omega]
  omega
theorem guess_top {B X W : Int} {j : Nat} (hz : X < W * B ^ (j + 1)) : X < (B - 1 + 1) * W * B ^ j := by
  rw [Int.pow_succ] at hz
  have e : (B - 1 + 1) * W * B ^ j = W * (B ^ j * B) := by grind
  omega
/-- The borrow is still out: the guess is too high. -/
theorem back_neg {B X W q Y : Int} {m : Nat} {j : Nat} (h : Y = X - q * W * B ^ j + 1 * B ^ m) (hY : Y < B ^ m) : X < q * W * B ^ j := by omega
theorem back_pos {B X W q : Int} {j : Nat} (hW : 0 < W) (hB : 0 < B) (hX : 0 ≤ X) (h : X < q * W * B ^ j) : 1 ≤ q := by
  rcases Int.lt_or_le 0 q with h1 | h1
  · omega
  · have hp := Int.mul_pos hW (pw_pos hB j)
    have : q * (W * B ^ j) ≤ 0 := Int.mul_nonpos_of_nonpos_of_nonneg h1 (Int.le_of_lt hp)
    rw [← Int.mul_assoc] at this
    omega
theorem back_step {B X W q Y Y2 c : Int} {m j : Nat} (h : Y = X - q * W * B ^ j + 1 * B ^ m) (h2 : Y2 = Y + W * B ^ j - c * B ^ m) : Y2 = X - (q - 1) * W * B ^ j + (1 - c) * B ^ m := by
  rw [h2, h]; grind
/-- The digit is found. -/
theorem digit_found {B X W q Y X0 : Int} {j m : Nat} {O : List Int} (hl : j < O.length) (ho : O.getD j 0 = 0) (h : Y = X - q * W * B ^ j + 0 * B ^ m) (hX : X + W * valB B O = X0) (hlt : X < (q + 1) * W * B ^ j) :
    Y + W * valB B (O.set j q) = X0 ∧ Y < W * B ^ j := by
  rw [valB_set _ _ _ hl, ho]
  constructor
  · grind
  · have : (q + 1) * W * B ^ j = q * W * B ^ j + W * B ^ j := by grind
    omega
/-- Shifted down by less than a word. -/
def shrL (B p : Int) : List Int → List Int
  | [] => []
  | x :: xs => ((x + B * xs.getD 0 0) / p % B) :: shrL B p xs
theorem shrL_len (B p : Int) : ∀ xs : List Int, (shrL B p xs).length = xs.length
  | [] => rfl
  | x :: xs => by simp [shrL, shrL_len B p xs]
theorem shrL_getD (B p : Int) : ∀ (xs : List Int) (i : Nat), i < xs.length → (shrL B p xs).getD i 0 = (xs.getD i 0 + B * xs.getD (i + 1) 0) / p % B
  | [], i, h => by simp at h
  | x :: xs, 0, h => by cases xs <;> simp [shrL]
  | x :: xs, i + 1, h => by simpa [shrL] using shrL_getD B p xs i (by simpa using h)
theorem valB_head {B : Int} (xs : List Int) : valB B xs = xs.getD 0 0 + B * valB B (xs.drop 1) := by cases xs <;> simp [valB]
theorem shrL_val {p m : Int} (hp : 0 < p) (hm : 0 < m) : ∀ {xs : List Int}, okW (p * m) xs → valB (p * m) (shrL (p * m) p xs) = valB (p * m) xs / p
  | [], _ => by simp [shrL, valB]
  | x :: xs, h => by
    have ih := shrL_val hp hm h.tail
    have hB : 0 < p * m := Int.mul_pos hp hm
    have hx := h.head
    have hh := h.tail.getD hB 0
    simp only [shrL, valB, ih]
    have hv := valB_head (B := p * m) xs
    have e0 : valB (p * m) xs / p = xs.getD 0 0 / p + m * valB (p * m) (xs.drop 1) := by
      rw [hv, show xs.getD 0 0 + p * m * valB (p * m) (xs.drop 1) = xs.getD 0 0 + p * (m * valB (p * m) (xs.drop 1)) by grind, Int.add_mul_ediv_left _ _ (Int.ne_of_gt hp)]
    have e1 : (x + p * m * xs.getD 0 0) / p = x / p + m * xs.getD 0 0 := by
      rw [show x + p * m * xs.getD 0 0 = x + p * (m * xs.getD 0 0) by grind, Int.add_mul_ediv_left _ _ (Int.ne_of_gt hp)]
    have e2 : (x + p * m * valB (p * m) xs) / p = x / p + m * valB (p * m) xs := by
      rw [show x + p * m * valB (p * m) xs = x + p * (m * valB (p * m) xs) by grind, Int.add_mul_ediv_left _ _ (Int.ne_of_gt hp)]
    have hxp : x / p < m := Int.ediv_lt_of_lt_mul hp (by rw [Int.mul_comm]; exact hx.2)
    have hxp0 : 0 ≤ x / p := Int.ediv_nonneg hx.1 (Int.le_of_lt hp)
    generalize hH : xs.getD 0 0 = H at *
    generalize hV' : valB (p * m) (xs.drop 1) = V' at *
    have d := Int.mul_ediv_add_emod H p
    have d0 := Int.emod_nonneg H (Int.ne_of_gt hp)
    have d1 := Int.emod_lt_of_pos H hp
    have e3 : (x / p + m * H) % (p * m) = x / p + m * (H % p) := by
      have : x / p + m * H = x / p + m * (H % p) + p * m * (H / p) := by rw [← d]; grind
      rw [this, Int.add_mul_emod_self_left]
      apply Int.emod_eq_of_lt
      · have := Int.mul_nonneg (Int.le_of_lt hm) d0
        omega
      · have h1 : m * (H % p) ≤ m * (p - 1) := Int.mul_le_mul_of_nonneg_left (by omega) (Int.le_of_lt hm)
        have e : m * (p - 1) = p * m - m := by grind
        omega
    rw [e0, e1, e2, e3, hv]
    have e : m * (H + p * m * V') = m * (p * (H / p) + H % p) + p * m * (m * V') := by rw [d]; grind
    rw [e]; grind
end Go.Proofs.Ytpnjkjahfklfnaa.Fw
