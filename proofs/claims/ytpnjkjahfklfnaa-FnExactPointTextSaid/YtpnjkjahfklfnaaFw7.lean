/- Small equations between values. -/
import Derived.Test.YtpnjkjahfklfnaaFw6
set_option linter.unusedVariables false
namespace Go.Proofs.Ytpnjkjahfklfnaa.Fw
open Go Go.RowKit
theorem vt {q : Prop} [Decidable q] (h : q) : Value.bool true = Value.bool (decide q) := by rw [decide_eq_true h]
theorem vf {q : Prop} [Decidable q] (h : ¬ q) : Value.bool false = Value.bool (decide q) := by rw [decide_eq_false h]
theorem vb {p q : Prop} [Decidable p] [Decidable q] (h : p ↔ q) : Value.bool (decide p) = Value.bool (decide q) := by congr 1; exact decide_eq_decide.2 h
theorem vbb {b : Bool} {q : Prop} [Decidable q] (h : b = true ↔ q) : Value.bool b = Value.bool (decide q) := by
  congr 1
  by_cases hq : q
  · rw [decide_eq_true hq]; exact h.2 hq
  · rw [decide_eq_false hq, ← Bool.not_eq_true]; exact fun hb => hq (h.1 hb)
theorem vbt {p : Prop} [Decidable p] (h : p) : Value.bool (decide p) = Value.bool true := by rw [decide_eq_true h]
theorem vbf {p : Prop} [Decidable p] (h : ¬ p) : Value.bool (decide p) = Value.bool false := by rw [decide_eq_false h]
theorem vi {k : IntKind} {a b : Int} (h : a = b) : Value.int k a = Value.int k b := by rw [h]
theorem tu2 {a b a' b' : Value} (h1 : a = a') (h2 : b = b') : Value.tuple #[a, b] = Value.tuple #[a', b'] := by rw [h1, h2]
theorem tu3 {a b c a' b' c' : Value} (h1 : a = a') (h2 : b = b') (h3 : c = c') : Value.tuple #[a, b, c] = Value.tuple #[a', b', c'] := by rw [h1, h2, h3]
theorem ag1 {a a' : Value} (h1 : a = a') : Value.agg #[a] = Value.agg #[a'] := by rw [h1]
theorem ag2 {a b a' b' : Value} (h1 : a = a') (h2 : b = b') : Value.agg #[a, b] = Value.agg #[a', b'] := by rw [h1, h2]
theorem ag3 {a b c a' b' c' : Value} (h1 : a = a') (h2 : b = b') (h3 : c = c') : Value.agg #[a, b, c] = Value.agg #[a', b', c'] := by rw [h1, h2, h3]
theorem ag4 {a b c d a' b' c' d' : Value} (h1 : a = a') (h2 : b = b') (h3 : c = c') (h4 : d = d') : Value.agg #[a, b, c, d] = Value.agg #[a', b', c', d'] := by rw [h1, h2, h3, h4]
theorem ag8 {a b c d e f g h a' b' c' d' e' f' g' h' : Value} (h1 : a = a') (h2 : b = b') (h3 : c = c') (h4 : d = d') (h5 : e = e') (h6 : f = f') (h7 : g = g') (h8 : h = h') :
    Value.agg #[a, b, c, d, e, f, g, h] = Value.agg #[a', b', c', d', e', f', g', h'] := by rw [h1, h2, h3, h4, h5, h6, h7, h8]
theorem ag12 {a b c d e f g h i j k l a' b' c' d' e' f' g' h' i' j' k' l' : Value} (h1 : a = a') (h2 : b = b') (h3 : c = c') (h4 : d = d') (h5 : e = e') (h6 : f = f') (h7 : g = g') (h8 : h = h') (h9 : i = i') (h10 : j = j') (h11 : k = k') (h12 : l = l') :
    Value.agg #[a, b, c, d, e, f, g, h, i, j, k, l] = Value.agg #[a', b', c', d', e', f', g', h', i', j', k', l'] := by rw [h1, h2, h3, h4, h5, h6, h7, h8, h9, h10, h11, h12]
theorem wr_i64 {x : Int} (h0 : -9223372036854775808 ≤ x) (h1 : x ≤ 9223372036854775807) : IntKind.i64.wrap x = x := by rw [IntKind.wrap_i64]; omega
theorem wr_u64 (x : Int) : IntKind.u64.wrap x = x % 18446744073709551616 := by simp [IntKind.wrap, IntKind.signed, IntKind.bits]
theorem wr_u32 (x : Int) : IntKind.u32.wrap x = x % 4294967296 := by simp [IntKind.wrap, IntKind.signed, IntKind.bits]
theorem wr_u8 (x : Int) : IntKind.u8.wrap x = x % 256 := by simp [IntKind.wrap, IntKind.signed, IntKind.bits]
theorem wn_u64 {x : Int} (h0 : 0 ≤ x) (h1 : x < 18446744073709551616) : IntKind.u64.wrap x = x := by rw [wr_u64]; omega
theorem wn_u32 {x : Int} (h0 : 0 ≤ x) (h1 : x < 4294967296) : IntKind.u32.wrap x = x := by rw [wr_u32]; omega
theorem wn_u8 {x : Int} (h0 : 0 ≤ x) (h1 : x < 256) : IntKind.u8.wrap x = x := by rw [wr_u8]; omega
theorem shr_c {a m : Int} {n : Nat} (h0 : 0 ≤ a) (hm : (2 : Int) ^ n = m) : a.fdiv (2 ^ n) = a / m := by
  subst hm
  exact Int.fdiv_eq_ediv_of_nonneg a (Int.le_of_lt (Int.pow_pos (by decide)))
theorem shl_c {k : IntKind} {a m z : Int} {n : Nat} (hm : (2 : Int) ^ n = m) (hw : k.wrap (a * m) = z) : k.wrap (a * 2 ^ n) = z := by subst hm; exact hw
theorem xor_u64 {a : Int} (h0 : 0 ≤ a) (h1 : a < 18446744073709551616) : bitV .u64 .xor (if IntKind.u64.signed then -1 else IntKind.u64.max) a = 18446744073709551615 - a := by
  obtain ⟨n, rfl⟩ := Int.eq_ofNat_of_zero_le h0
  have e1 : (if IntKind.u64.signed then -1 else IntKind.u64.max : Int) = 18446744073709551615 := by decide
  rw [e1]
  have e2 : BitVec.ofInt 64 18446744073709551615 = BitVec.allOnes 64 := by decide
  show IntKind.u64.wrap ((BitVec.ofInt 64 18446744073709551615 ^^^ BitVec.ofInt 64 (n : Int)).toNat : Int) = _
  rw [e2, BitVec.allOnes_xor, BitVec.toNat_not, BitVec.ofInt_natCast, BitVec.toNat_ofNat, wr_u64]
  omega
theorem or_add {k : IntKind} {a b : Int} {i : Nat} (hk : k.signed = false) (h0 : 0 ≤ a) (h1 : a < 2 ^ i) (hb0 : 0 ≤ b) (hb : b % 2 ^ i = 0) (hb1 : b < 2 ^ k.bits) (ha1 : a < 2 ^ k.bits) : bitV k .or a b = a + b ∧ bitV k .or b a = a + b := by
  obtain ⟨n, rfl⟩ := Int.eq_ofNat_of_zero_le h0
  obtain ⟨m, rfl⟩ := Int.eq_ofNat_of_zero_le hb0
  have hn : n < 2 ^ i := by have : ((2 ^ i : Nat) : Int) = 2 ^ i := by simp
                            omega
  have hm : m % 2 ^ i = 0 := by have : ((m % 2 ^ i : Nat) : Int) = (m : Int) % 2 ^ i := by simp
                                omega
  have hmk : m < 2 ^ k.bits := by have : ((2 ^ k.bits : Nat) : Int) = 2 ^ k.bits := by simp
                                  omega
  have hnk : n < 2 ^ k.bits := by have : ((2 ^ k.bits : Nat) : Int) = 2 ^ k.bits := by simp
                                  omega
  have e : m = 2 ^ i * (m / 2 ^ i) := by have := Nat.div_add_mod m (2 ^ i); omega
  have hor : m ||| n = m + n := by rw [e, ← Nat.two_pow_add_eq_or_of_lt hn]
  have hlt : m + n < 2 ^ k.bits := by rw [← hor]; exact Nat.or_lt_two_pow hmk hnk
  have hw : k.wrap ((m + n : Nat) : Int) = (m : Int) + n := by
    cases k <;> simp [IntKind.signed] at hk <;> simp [IntKind.bits] at hlt <;> simp [IntKind.wrap, IntKind.signed, IntKind.bits] <;> omega
  have hl : ∀ x y : Nat, x < 2 ^ k.bits → y < 2 ^ k.bits → bitV k .or (x : Int) (y : Int) = k.wrap ((x ||| y : Nat) : Int) := fun x y hx hy => by
    simp only [bitV, BitVec.ofInt_natCast, BitVec.toNat_or, BitVec.toNat_ofNat, Nat.mod_eq_of_lt hx, Nat.mod_eq_of_lt hy]
  refine ⟨?_, ?_⟩
  · rw [hl n m hnk hmk, Nat.or_comm, hor, hw]; omega
  · rw [hl m n hmk hnk, hor, hw]; omega
theorem mul_bd {a b A B : Int} (h1 : -A ≤ a) (h2 : a ≤ A) (h3 : -B ≤ b) (h4 : b ≤ B) : -(A * B) ≤ a * b ∧ a * b ≤ A * B := by
  have hA : 0 ≤ A := by omega
  have hB : 0 ≤ B := by omega
  have e : (a * b).natAbs ≤ (A * B).natAbs := by
    rw [Int.natAbs_mul, Int.natAbs_mul]
    exact Nat.mul_le_mul (by omega) (by omega)
  have hAB : 0 ≤ A * B := Int.mul_nonneg hA hB
  omega
end Go.Proofs.Ytpnjkjahfklfnaa.Fw
