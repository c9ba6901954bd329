/- Digits of a number; wide words, in plain Lean. -/
import Derived.Test.YtpnjkjahfklfnaaFw11
set_option linter.unusedVariables false
namespace Go.Proofs.Ytpnjkjahfklfnaa.Fw
open Go
theorem digit {B : Int} (hB : 0 < B) : ∀ {xs : List Int} (i : Nat), okW B xs → xs.getD i 0 = valB B xs / B ^ i % B
  | [], i, h => by simp [valB]
  | x :: xs, 0, h => by
    have hx := h.head
    simp only [List.getD_cons_zero, valB, Int.pow_zero, Int.ediv_one]
    rw [Int.add_mul_emod_self_left, Int.emod_eq_of_lt hx.1 hx.2]
  | x :: xs, i + 1, h => by
    have hx := h.head
    have ih := digit hB (xs := xs) i h.tail
    simp only [List.getD_cons_succ, valB]
    rw [ih, Int.pow_succ, Int.mul_comm (B ^ i) B, ← Int.ediv_ediv_of_nonneg (Int.le_of_lt hB), Int.add_mul_ediv_left _ _ (by omega), Int.ediv_eq_zero_of_lt hx.1 hx.2, Int.zero_add]
/-- Whether a number is told by 256 bits. -/
def fits (z : Int) : Prop := -57896044618658097711785492504343953926634992332820282019728792003956564819968 ≤ z ∧ z < 57896044618658097711785492504343953926634992332820282019728792003956564819968
instance (z : Int) : Decidable (fits z) := by unfold fits; infer_instance
def wv0 (z : Int) : Int := if fits z then z % 18446744073709551616 else 0
def wv1 (z : Int) : Int := if fits z then z / 18446744073709551616 % 18446744073709551616 else 0
def wv2 (z : Int) : Int := if fits z then z / 340282366920938463463374607431768211456 % 18446744073709551616 else 0
def wv3 (z : Int) : Int := if fits z then z / 6277101735386680763835789423207666416102355444464034512896 % 18446744073709551616 else 0
theorem w_rg (z : Int) : (0 ≤ wv3 z ∧ wv3 z < 18446744073709551616) ∧ (0 ≤ wv2 z ∧ wv2 z < 18446744073709551616) ∧ (0 ≤ wv1 z ∧ wv1 z < 18446744073709551616) ∧ (0 ≤ wv0 z ∧ wv0 z < 18446744073709551616) := by
  unfold wv0 wv1 wv2 wv3
  by_cases h : fits z
  · simp only [if_pos h]; omega
  · simp only [if_neg h]; omega
theorem wz_w {z : Int} (h : fits z) : wz (wv3 z) (wv2 z) (wv1 z) (wv0 z) = z := by
  unfold wz u256 wv0 wv1 wv2 wv3
  simp only [if_pos h]
  unfold fits at h
  split <;> omega
theorem dig64 {xs : List Int} (h : okW (2 ^ 64) xs) : xs.getD 0 0 = valB (2 ^ 64) xs % 18446744073709551616 ∧ xs.getD 1 0 = valB (2 ^ 64) xs / 18446744073709551616 % 18446744073709551616 ∧
    xs.getD 2 0 = valB (2 ^ 64) xs / 340282366920938463463374607431768211456 % 18446744073709551616 ∧ xs.getD 3 0 = valB (2 ^ 64) xs / 6277101735386680763835789423207666416102355444464034512896 % 18446744073709551616 := by
  have e : (2 : Int) ^ 64 = 18446744073709551616 := by decide
  rw [e] at h ⊢
  have d0 := digit (by decide) 0 h
  have d1 := digit (by decide) 1 h
  have d2 := digit (by decide) 2 h
  have d3 := digit (by decide) 3 h
  rw [show (18446744073709551616 : Int) ^ 0 = 1 by decide, Int.ediv_one] at d0
  rw [show (18446744073709551616 : Int) ^ 1 = 18446744073709551616 by decide] at d1
  rw [show (18446744073709551616 : Int) ^ 2 = 340282366920938463463374607431768211456 by decide] at d2
  rw [show (18446744073709551616 : Int) ^ 3 = 6277101735386680763835789423207666416102355444464034512896 by decide] at d3
  exact ⟨d0, d1, d2, d3⟩
theorem pow255 : (2 : Nat) ^ 255 = 57896044618658097711785492504343953926634992332820282019728792003956564819968 := by decide
theorem wide_neg {x q : Int} (hx : x < 0) (hq : (((x + 1).natAbs : Nat) : Int) = q) (hf : nbits (x + 1).natAbs ≤ 255) : fits x ∧ wv3 x = 18446744073709551615 - q / 6277101735386680763835789423207666416102355444464034512896 % 18446744073709551616 ∧
    wv2 x = 18446744073709551615 - q / 340282366920938463463374607431768211456 % 18446744073709551616 ∧ wv1 x = 18446744073709551615 - q / 18446744073709551616 % 18446744073709551616 ∧ wv0 x = 18446744073709551615 - q % 18446744073709551616 := by
  have h1 := nbits_le_iff.1 hf
  rw [pow255] at h1
  have hfit : fits x := by unfold fits; omega
  have e : x = -q - 1 := by omega
  refine ⟨hfit, ?_, ?_, ?_, ?_⟩
  · unfold wv3; rw [if_pos hfit, e]; omega
  · unfold wv2; rw [if_pos hfit, e]; omega
  · unfold wv1; rw [if_pos hfit, e]; omega
  · unfold wv0; rw [if_pos hfit, e]; omega
theorem wide_pos {x q : Int} (hx : 0 ≤ x) (hq : ((x.natAbs : Nat) : Int) = q) (hf : nbits x.natAbs ≤ 255) : fits x ∧ wv3 x = q / 6277101735386680763835789423207666416102355444464034512896 % 18446744073709551616 ∧
    wv2 x = q / 340282366920938463463374607431768211456 % 18446744073709551616 ∧ wv1 x = q / 18446744073709551616 % 18446744073709551616 ∧ wv0 x = q % 18446744073709551616 := by
  have h1 := nbits_le_iff.1 hf
  rw [pow255] at h1
  have hfit : fits x := by unfold fits; omega
  have e : x = q := by omega
  refine ⟨hfit, ?_, ?_, ?_, ?_⟩
  · unfold wv3; rw [if_pos hfit, e]
  · unfold wv2; rw [if_pos hfit, e]
  · unfold wv1; rw [if_pos hfit, e]
  · unfold wv0; rw [if_pos hfit, e]
theorem wide_no {x : Int} (hf : (x < 0 ∧ ¬ nbits (x + 1).natAbs ≤ 255) ∨ (0 ≤ x ∧ ¬ nbits x.natAbs ≤ 255)) : ¬ fits x ∧ wv3 x = 0 ∧ wv2 x = 0 ∧ wv1 x = 0 ∧ wv0 x = 0 := by
  have hfit : ¬ fits x := by
    rw [nbits_le_iff, nbits_le_iff, pow255] at hf
    unfold fits; omega
  refine ⟨hfit, ?_, ?_, ?_, ?_⟩
  · unfold wv3; rw [if_neg hfit]
  · unfold wv2; rw [if_neg hfit]
  · unfold wv1; rw [if_neg hfit]
  · unfold wv0; rw [if_neg hfit]
theorem comp_step {M : Int} {L0 L : List Int} {i : Nat} (hi : i < L.length) (hl : L.length = L0.length) (h : ∀ j, j < L0.length → L.getD j 0 = if j < i then M - L0.getD j 0 else L0.getD j 0) :
    ∀ j, j < L0.length → (L.set i (M - L.getD i 0)).getD j 0 = if j < i + 1 then M - L0.getD j 0 else L0.getD j 0 := by
  intro j hj
  by_cases he : i = j
  · subst he
    rw [getD_set_eq _ _ _ hi, if_pos (by omega), h i hj, if_neg (by omega)]
  · rw [getD_set_ne _ _ _ _ he, h j hj]
    by_cases hlt : j < i
    · rw [if_pos hlt, if_pos (by omega)]
    · rw [if_neg hlt, if_neg (by omega)]
theorem comp_end {M : Int} {L0 L : List Int} {i : Nat} (hi : L0.length ≤ i) (h : ∀ j, j < L0.length → L.getD j 0 = if j < i then M - L0.getD j 0 else L0.getD j 0) : ∀ j, j < L0.length → L.getD j 0 = M - L0.getD j 0 := by
  intro j hj
  rw [h j hj, if_pos (by omega)]
theorem valB_pad {B : Int} (xs : List Int) (n : Nat) : valB B (xs ++ List.replicate n 0) = valB B xs := by rw [valB_append, valB_zeros]; omega
theorem wide32 {x : Int} {ys : List Int} (h : okW (2 ^ 32) ys) (hf : fits x) (hv : valB (2 ^ 32) ys = x % 115792089237316195423570985008687907853269984665640564039457584007913129639936) : ys.getD 6 0 + ys.getD 7 0 * 4294967296 = wv3 x ∧ ys.getD 4 0 + ys.getD 5 0 * 4294967296 = wv2 x ∧
    ys.getD 2 0 + ys.getD 3 0 * 4294967296 = wv1 x ∧ ys.getD 0 0 + ys.getD 1 0 * 4294967296 = wv0 x := by
  have e : (2 : Int) ^ 32 = 4294967296 := by decide
  rw [e] at h hv
  have d0 := digit (by decide) 0 h
  rw [show (4294967296 : Int) ^ 0 = 1 by decide] at d0
  have d1 := digit (by decide) 1 h
  rw [show (4294967296 : Int) ^ 1 = 4294967296 by decide] at d1
  have d2 := digit (by decide) 2 h
  rw [show (4294967296 : Int) ^ 2 = 18446744073709551616 by decide] at d2
  have d3 := digit (by decide) 3 h
  rw [show (4294967296 : Int) ^ 3 = 79228162514264337593543950336 by decide] at d3
  have d4 := digit (by decide) 4 h
  rw [show (4294967296 : Int) ^ 4 = 340282366920938463463374607431768211456 by decide] at d4
  have d5 := digit (by decide) 5 h
  rw [show (4294967296 : Int) ^ 5 = 1461501637330902918203684832716283019655932542976 by decide] at d5
  have d6 := digit (by decide) 6 h
  rw [show (4294967296 : Int) ^ 6 = 6277101735386680763835789423207666416102355444464034512896 by decide] at d6
  have d7 := digit (by decide) 7 h
  rw [show (4294967296 : Int) ^ 7 = 26959946667150639794667015087019630673637144422540572481103610249216 by decide] at d7
  rw [hv] at d0 d1 d2 d3 d4 d5 d6 d7
  unfold wv0 wv1 wv2 wv3
  simp only [if_pos hf]
  refine ⟨?_, ?_, ?_, ?_⟩
  · rw [d6, d7]; omega
  · rw [d4, d5]; omega
  · rw [d2, d3]; omega
  · rw [d0, d1]; omega
theorem wide_no32 {x : Int} (h : ¬ fits x) : ¬ fits x ∧ wv3 x = 0 ∧ wv2 x = 0 ∧ wv1 x = 0 ∧ wv0 x = 0 := by
  refine ⟨h, ?_, ?_, ?_, ?_⟩
  · unfold wv3; rw [if_neg h]
  · unfold wv2; rw [if_neg h]
  · unfold wv1; rw [if_neg h]
  · unfold wv0; rw [if_neg h]
theorem nb255 {x : Int} {y : Nat} (hy : y = x.natAbs) : nbits y ≤ 255 ↔ x.natAbs < 57896044618658097711785492504343953926634992332820282019728792003956564819968 := by subst hy; rw [nbits_le_iff, pow255]
theorem put_step {X ys : List Int} {i : Nat} (hi : i < X.length) (h : ∀ j, j < 8 → X.getD j 0 = if j < i then ys.getD j 0 else 0) : ∀ j, j < 8 → (X.set i (ys.getD i 0)).getD j 0 = if j < i + 1 then ys.getD j 0 else 0 := by
  intro j hj
  by_cases he : i = j
  · subst he
    rw [getD_set_eq _ _ _ hi, if_pos (by omega)]
  · rw [getD_set_ne _ _ _ _ he, h j hj]
    by_cases hlt : j < i
    · rw [if_pos hlt, if_pos (by omega)]
    · rw [if_neg hlt, if_neg (by omega)]
theorem put_rg {X ys : List Int} {i : Nat} (h : ∀ j, j < 8 → X.getD j 0 = if j < i then ys.getD j 0 else 0) (ho : okW (2 ^ 32) ys) (j : Nat) (hj : j < 8) : 0 ≤ X.getD j 0 ∧ X.getD j 0 < 4294967296 := by
  have e : (2 : Int) ^ 32 = 4294967296 := by decide
  rw [e] at ho
  rw [h j hj]
  by_cases hlt : j < i
  · rw [if_pos hlt]; exact ho.getD (by decide) j
  · rw [if_neg hlt]; decide
theorem rep0 (j : Nat) : (List.replicate 8 (0 : Int)).getD j 0 = 0 := by
  simp only [List.getD_eq_getElem?_getD, List.getElem?_replicate]
  split <;> rfl
theorem lt32 {x : Int} (h : x < 4294967296) : x < 2 ^ IntKind.u32.bits := by
  have e : (2 : Int) ^ IntKind.u32.bits = 4294967296 := by decide
  omega
theorem int_32 {x u : Int} (h : -9223372036854775808 ≤ x ∧ x ≤ 9223372036854775807) (hu : u = (if x < 0 then -x else x)) : sg (decide (x < 0)) (valB (2 ^ 32) [u % 4294967296, u / 4294967296 % 4294967296]) = x := by
  have e : (2 : Int) ^ 32 = 4294967296 := by decide
  rw [e]
  simp only [sg, valB]
  by_cases hx : x < 0
  · rw [if_pos hx] at hu; simp [hx]; omega
  · rw [if_neg hx] at hu; simp [hx]; omega
theorem put_end {X ys : List Int} {i : Nat} (h : ∀ j, j < 8 → X.getD j 0 = if j < i then ys.getD j 0 else 0) (hi : 8 ≤ i ∨ ys.length ≤ i) (j : Nat) (hj : j < 8) : X.getD j 0 = ys.getD j 0 := by
  rw [h j hj]
  by_cases hlt : j < i
  · rw [if_pos hlt]
  · rw [if_neg hlt, getD_ge ys j (by omega)]
end Go.Proofs.Ytpnjkjahfklfnaa.Fw
