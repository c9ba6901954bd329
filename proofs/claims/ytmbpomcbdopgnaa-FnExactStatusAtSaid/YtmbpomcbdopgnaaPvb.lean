/- Walks and plain mathematics, packed by a program of this session: declarations that the rows reach. -/
import Derived.ProofKit
import Derived.OpenShut
import Derived.ShutString
import Derived.ChangeOld
import Derived.SizedLaws
import Derived.ReadAgain
import Derived.ChangeBears
import Derived.Laws.Concat
import Derived.Laws.Strings
import Derived.Laws.BytesString
import Derived.Test.YtmbpomcbdopgnaaPva
set_option linter.unusedVariables false
set_option linter.unusedSimpArgs false
namespace Go.Proofs.Ytmbpomcbdopgnaa.Fw
open Go Go.RowKit
section
variable {P : Program} {n : Nat} {fr : Fr} {w : World} {ty : TypeId}
theorem Ow.off {w : World} {base T c g o : Nat} {k : IntKind} {L : List Int} (h : Ow w base T k (some ⟨g, o, none⟩) c L) : o = 0 ∧ base ≤ g := by
  rcases h.1.2 with ⟨hv, hn⟩ | ⟨g', cap, cur, hv, hb, hg, h1, h2, h3, h4⟩
  · injection hv with hA _ _
    cases hA
  · injection hv with hA _ hc
    injection hA with hA
    injection hA with h5 h6 h7
    subst h5
    exact ⟨h6, hb⟩
theorem oe_storeOw {t : TypeId} {x y : Operand} {base T c g o i : Nat} {k : IntKind} {L : List Int} {z : Int} {K : Value → World → Prop} (hs : sizeB P t = some 1) (hx : EV n fr x (.pointer (some ⟨g, o + i, none⟩))) (hy : EV n fr y (.int k z))
    (hO : Ow w base T k (some ⟨g, o, none⟩) c L) (hi : i < L.length) (h : ∀ w', Ow w' base T k (some ⟨g, o, none⟩) c (L.set i z) → Below base w w' → K undef w') : OE P n (.store t x y) ty fr w K := by
  obtain ⟨rfl, hbg⟩ := hO.off
  rw [Nat.zero_add] at hx
  rcases hO.1.2 with ⟨hv, hn⟩ | ⟨g', cap, cur, hv, hb, hg, h1, h2, h3, h4⟩
  · injection hv with hA _ _
    cases hA
  · injection hv with hA _ hc
    injection hA with hA
    injection hA with h5
    subst h5; subst hc
    have hlc : i < cur.toList.length := by simp; omega
    have hst : stC cur.toList i [.int k z] = some (cur.toList.set i (.int k z)) := by
      have := stC_mid i cur.toList [.int k z] (by simp at hlc ⊢; omega)
      rw [this, List.set_eq_take_append_cons_drop, if_pos hlc]
      simp
    refine oe_store hx hy hs rfl rfl rfl (cs := cur.toList) (T := T) (by simpa using hg) hst fun w' hs' hb' => h w' ⟨⟨by simp, .inr ⟨g, c, _, rfl, hb, hb', by simpa using h1, h2, by simpa using h3, ?_⟩⟩, by rw [hs'.size]; exact hO.2⟩
      ⟨hs'.os, hs'.tape, hs'.output, Nat.le_of_eq hs'.size.symm, fun j hj => hs'.block j (by omega)⟩
    simp only [List.length_set, Nat.mul_one] at h4 ⊢
    rw [List.take_set, h4, List.map_set]
end
end Go.Proofs.Ytmbpomcbdopgnaa.Fw
namespace Go.Proofs.Ytmbpomcbdopgnaa.Fw
open Go
theorem digit {B : Int} (hB : 0 < B) : ∀ {xs : List Int} (i : Nat), okW B xs → xs.getD i 0 = valB B xs / B ^ i % B
  | [], i, h => by simp [valB]
  | x :: xs, 0, h => by
    have hx := h.head
    simp only [List.getD_cons_zero, valB, Int.pow_zero, Int.ediv_one]
    rw [Int.add_mul_emod_self_left, Int.emod_eq_of_lt hx.1 hx.2]
  | x :: xs, i + 1, h => by
    have hx := h.head
    have ih := digit hB (xs := xs) i h.tail
    simp only [List.getD_cons_succ, valB]
    rw [ih, Int.pow_succ, Int.mul_comm (B ^ i) B, ← Int.ediv_ediv_of_nonneg (Int.le_of_lt hB), Int.add_mul_ediv_left _ _ (by omega), Int.ediv_eq_zero_of_lt hx.1 hx.2, Int.zero_add]
def fits (z : Int) : Prop := -57896044618658097711785492504343953926634992332820282019728792003956564819968 ≤ z ∧ z < 57896044618658097711785492504343953926634992332820282019728792003956564819968
instance (z : Int) : Decidable (fits z) := by unfold fits; infer_instance
def wv0 (z : Int) : Int := if fits z then z % 18446744073709551616 else 0
def wv1 (z : Int) : Int := if fits z then z / 18446744073709551616 % 18446744073709551616 else 0
def wv2 (z : Int) : Int := if fits z then z / 340282366920938463463374607431768211456 % 18446744073709551616 else 0
def wv3 (z : Int) : Int := if fits z then z / 6277101735386680763835789423207666416102355444464034512896 % 18446744073709551616 else 0
theorem w_rg (z : Int) : (0 ≤ wv3 z ∧ wv3 z < 18446744073709551616) ∧ (0 ≤ wv2 z ∧ wv2 z < 18446744073709551616) ∧ (0 ≤ wv1 z ∧ wv1 z < 18446744073709551616) ∧ (0 ≤ wv0 z ∧ wv0 z < 18446744073709551616) := by
  unfold wv0 wv1 wv2 wv3
  by_cases h : fits z
  · simp only [if_pos h]; omega
  · simp only [if_neg h]; omega
theorem wz_w {z : Int} (h : fits z) : wz (wv3 z) (wv2 z) (wv1 z) (wv0 z) = z := by
  unfold wz u256 wv0 wv1 wv2 wv3
  simp only [if_pos h]
  unfold fits at h
  split <;> omega
theorem lt32 {x : Int} (h : x < 4294967296) : x < 2 ^ IntKind.u32.bits := by
  have e : (2 : Int) ^ IntKind.u32.bits = 4294967296 := by decide
  omega
theorem int_32 {x u : Int} (h : -9223372036854775808 ≤ x ∧ x ≤ 9223372036854775807) (hu : u = (if x < 0 then -x else x)) : sg (decide (x < 0)) (valB (2 ^ 32) [u % 4294967296, u / 4294967296 % 4294967296]) = x := by
  have e : (2 : Int) ^ 32 = 4294967296 := by decide
  rw [e]
  simp only [sg, valB]
  by_cases hx : x < 0
  · rw [if_pos hx] at hu; simp [hx]; omega
  · rw [if_neg hx] at hu; simp [hx]; omega
theorem mul_pos_bd {a b A : Int} (h0 : 0 ≤ a) (h1 : a ≤ A) (h2 : 0 ≤ b) (h3 : b ≤ A) : 0 ≤ a * b ∧ a * b ≤ A * A :=
  ⟨Int.mul_nonneg h0 h2, (mul_bd (by omega) h1 (by omega) h3).2⟩
theorem mul_step {B : Int} {ys M : List Int} {i k : Nat} {c c2 z V x y o : Int} (hj : i + k < M.length) (h : valB B M + c * B ^ (i + k) = V + x * valB B (ys.take k) * B ^ i) (hy : y = ys.getD k 0) (ho : o = M.getD (i + k) 0) (hz : z + B * c2 = c + x * y + o) :
    valB B (M.set (i + k) z) + c2 * B ^ (i + (k + 1)) = V + x * valB B (ys.take (k + 1)) * B ^ i := by
  subst hy; subst ho
  rw [valB_set _ _ _ hj, valB_take_succ', ← Nat.add_assoc, Int.pow_succ]
  have e1 : B ^ (i + k) * (z + B * c2) = B ^ (i + k) * (c + x * ys.getD k 0 + M.getD (i + k) 0) := by rw [hz]
  simp only [Int.mul_add, Int.mul_sub] at e1 ⊢
  have e2 : c2 * (B ^ (i + k) * B) = B ^ (i + k) * (B * c2) := by rw [Int.mul_comm c2, Int.mul_assoc]
  have e3 : c * B ^ (i + k) = B ^ (i + k) * c := Int.mul_comm _ _
  have e4 : (x * valB B (ys.take k) + x * (B ^ k * ys.getD k 0)) * B ^ i = x * valB B (ys.take k) * B ^ i + B ^ (i + k) * (x * ys.getD k 0) := by
    rw [Int.add_mul, Int.pow_add]
    congr 1
    ac_rfl
  rw [e4]
  omega
theorem mul_last {B : Int} {xs ys M : List Int} {i : Nat} {c : Int} (hj : i + ys.length < M.length) (hz : M.getD (i + ys.length) 0 = 0) (h : valB B M + c * B ^ (i + ys.length) = valB B (xs.take i) * valB B ys + xs.getD i 0 * valB B (ys.take ys.length) * B ^ i) :
    valB B (M.set (i + ys.length) c) = valB B (xs.take (i + 1)) * valB B ys := by
  rw [valB_set _ _ _ hj, hz, valB_take_succ', Int.sub_zero, Int.add_mul]
  rw [List.take_length] at h
  have e3 : c * B ^ (i + ys.length) = B ^ (i + ys.length) * c := Int.mul_comm _ _
  have e4 : B ^ i * xs.getD i 0 * valB B ys = xs.getD i 0 * valB B ys * B ^ i := by ac_rfl
  omega
theorem zero_set {M : List Int} {n j : Nat} {z : Int} (h : ∀ q, n ≤ q → M.getD q 0 = 0) (hj : j < n) : ∀ q, n ≤ q → (M.set j z).getD q 0 = 0 := by
  intro q hq
  rw [getD_set_neQ _ _ _ _ (by omega)]
  exact h q hq
theorem zero_set1 {M : List Int} {n : Nat} {z : Int} (h : ∀ q, n ≤ q → M.getD q 0 = 0) : ∀ q, n + 1 ≤ q → (M.set n z).getD q 0 = 0 := by
  intro q hq
  rw [getD_set_neQ _ _ _ _ (by omega)]
  exact h q (by omega)
theorem mul_start {B V x : Int} {ys M : List Int} {i : Nat} (h : valB B M = V) : valB B M + 0 * B ^ (i + 0) = V + x * valB B (ys.take 0) * B ^ i := by
  rw [h, List.take_zero]
  simp [valB]
theorem mul_zero_of {x y : Int} (h : x = 0 ∨ y = 0) : x * y = 0 := by rcases h with rfl | rfl <;> simp
theorem nat_mul_sz {x y s t : Nat} (h : x < 2 ^ s) (h2 : y < 2 ^ t) : x * y < 2 ^ (s + t) := by
  rw [Nat.pow_add]
  exact Nat.mul_lt_mul_of_lt_of_lt h h2
theorem rep_zero (n q : Nat) : (List.replicate n (0 : Int)).getD q 0 = 0 := by
  simp only [List.getD_eq_getElem?_getD, List.getElem?_replicate]
  split <;> rfl
end Go.Proofs.Ytmbpomcbdopgnaa.Fw
namespace Go.Proofs.Ytmbpomcbdopgnaa.Fw
theorem val_at {B : Int} (xs : List Int) (k : Nat) (h : k ≤ xs.length) : valB B xs = valB B (xs.take k) + B ^ k * valB B (xs.drop k) := by
  have := valB_split (B := B) xs k
  rwa [Nat.min_eq_left h] at this
theorem val_drop {B : Int} (xs : List Int) (i : Nat) (h : i < xs.length) : valB B (xs.drop i) = xs.getD i 0 + B * valB B (xs.drop (i + 1)) := by
  rw [List.drop_eq_getElem_cons h, valB, List.getD_eq_getElem?_getD, List.getElem?_eq_getElem h]
  rfl
theorem val_lo {B : Int} (hB : 0 < B) {xs : List Int} (ho : okW B xs) (k : Nat) (h : k ≤ xs.length) : B ^ k * valB B (xs.drop k) ≤ valB B xs ∧ valB B xs < B ^ k * (valB B (xs.drop k) + 1) := by
  have h1 := val_at (B := B) xs k h
  have h2 := valB_lt (Int.le_of_lt hB) (ho.take k)
  have h3 := valB_nonneg (Int.le_of_lt hB) (ho.take k)
  rw [List.length_take, Nat.min_eq_left h] at h2
  rw [Int.mul_add]
  omega
theorem pw_pos {B : Int} (hB : 0 < B) (k : Nat) : 0 < B ^ k := Int.pow_pos hB
theorem zero_of_lt {B : Int} (hB : 0 < B) {xs : List Int} (ho : okW B xs) {m : Nat} (h : valB B xs < B ^ m) : ∀ k, m ≤ k → xs.getD k 0 = 0 := by
  intro k hk
  by_cases hl : k < xs.length
  · have h1 := (val_lo hB ho k (by omega)).1
    have h2 := val_drop (B := B) xs k hl
    have h3 := valB_nonneg (Int.le_of_lt hB) (ho.drop (k + 1))
    have h4 := (ho.getD hB k).1
    have h5 : 0 ≤ B * valB B (xs.drop (k + 1)) := Int.mul_nonneg (Int.le_of_lt hB) h3
    have h6 : B ^ m ≤ B ^ k := pow_le_of hB hk
    have hp := pw_pos hB k
    rcases Int.lt_or_le 0 (xs.getD k 0) with h7 | h7
    · have h8 : B ^ k * 1 ≤ B ^ k * valB B (xs.drop k) := Int.mul_le_mul_of_nonneg_left (by omega) (Int.le_of_lt hp)
      omega
    · omega
  · exact getD_ge _ _ (by omega)
theorem valB_zero {B : Int} : ∀ {xs : List Int}, (∀ k, xs.getD k 0 = 0) → valB B xs = 0 := by
  intro xs
  induction xs with
  | nil => intro _; rfl
  | cons x xs ih =>
    intro h
    have h0 := h 0
    have h1 := ih fun k => h (k + 1)
    simp at h0
    simp [valB, h0, h1]
theorem val_take_zero {B : Int} {xs : List Int} {m : Nat} (h : ∀ k, m ≤ k → xs.getD k 0 = 0) : valB B (xs.take m) = valB B xs := by
  by_cases hl : m ≤ xs.length
  · have h1 := val_at (B := B) xs m hl
    have h2 : valB B (xs.drop m) = 0 := valB_zero fun k => by
      have := h (m + k) (by omega)
      simpa [List.getD_eq_getElem?_getD] using this
    rw [h2] at h1
    simp at h1
    exact h1.symm
  · rw [List.take_of_length_le (by omega)]
theorem lt_of_zero {B : Int} (hB : 0 < B) {xs : List Int} (ho : okW B xs) {m : Nat} (h : ∀ k, m ≤ k → xs.getD k 0 = 0) : valB B xs < B ^ m := by
  rw [← val_take_zero (B := B) h]
  have h1 := valB_lt (Int.le_of_lt hB) (ho.take m)
  have h2 : B ^ (xs.take m).length ≤ B ^ m := pow_le_of hB (by simp; omega)
  omega
theorem shf_step {B p : Int} {xs O : List Int} {i : Nat} {x lo c : Int} (hl : i + 1 < O.length) (hv : valB B O = p * valB B (xs.take i)) (hx : x = xs.getD i 0) (h0 : O.getD (i + 1) 0 = 0) (hz : lo + B * c = x * p) :
    valB B ((O.set i (O.getD i 0 + lo)).set (i + 1) c) = p * valB B (xs.take (i + 1)) := by
  rw [valB_set _ _ _ (by simpa using hl), valB_set _ _ _ (by omega), getD_set_neQ _ _ _ _ (by omega), h0, hv, valB_take_succ', ← hx, Int.pow_succ]
  have e : p * (B ^ i * x) = B ^ i * (lo + B * c) := by rw [hz]; grind
  rw [Int.mul_add, e]
  grind
theorem shf_step0 {B p : Int} {xs O : List Int} {i : Nat} {x lo : Int} (hl : i < O.length) (hv : valB B O = p * valB B (xs.take i)) (hx : x = xs.getD i 0) (hz : lo = x * p) :
    valB B (O.set i (O.getD i 0 + lo)) = p * valB B (xs.take (i + 1)) := by
  rw [valB_set _ _ _ hl, hv, valB_take_succ', ← hx, hz]
  grind
theorem msub_step {B q X : Int} {M Vs : List Int} {i j : Nat} {c c2 bw bw2 lo m : Int} (hl : j + i < M.length) (hv : valB B M = X - q * valB B (Vs.take i) * B ^ j + (c + bw) * B ^ (j + i)) (hlo : lo + B * c2 = q * Vs.getD i 0 + c)
    (hm : m = M.getD (j + i) 0 - lo - bw + B * bw2) : valB B (M.set (j + i) m) = X - q * valB B (Vs.take (i + 1)) * B ^ j + (c2 + bw2) * B ^ (j + (i + 1)) := by
  rw [valB_set _ _ _ hl, hv, valB_take_succ', ← Nat.add_assoc, Int.pow_succ, Int.pow_add]
  have e : q * Vs.getD i 0 = lo + B * c2 - c := by omega
  have e2 : q * (valB B (Vs.take i) + B ^ i * Vs.getD i 0) * B ^ j = q * valB B (Vs.take i) * B ^ j + B ^ i * B ^ j * (q * Vs.getD i 0) := by grind
  rw [e2, e, hm]
  grind
theorem msub_top {B q W X : Int} {M : List Int} {n j : Nat} {c bw bw2 m : Int} (hl : j + n < M.length) (hv : valB B M = X - q * W * B ^ j + (c + bw) * B ^ (j + n)) (hm : m = M.getD (j + n) 0 - c - bw + B * bw2) :
    valB B (M.set (j + n) m) = X - q * W * B ^ j + bw2 * B ^ (j + n + 1) := by
  rw [valB_set _ _ _ hl, hv, Int.pow_succ, hm]
  grind
theorem madd_step {B X : Int} {M Vs : List Int} {i j : Nat} {c c2 m : Int} (hl : j + i < M.length) (hv : valB B M + c * B ^ (j + i) = X + valB B (Vs.take i) * B ^ j) (hm : m + B * c2 = M.getD (j + i) 0 + Vs.getD i 0 + c) :
    valB B (M.set (j + i) m) + c2 * B ^ (j + (i + 1)) = X + valB B (Vs.take (i + 1)) * B ^ j := by
  rw [valB_set _ _ _ hl, valB_take_succ', ← Nat.add_assoc, Int.pow_succ]
  have e : valB B M = X + valB B (Vs.take i) * B ^ j - c * B ^ (j + i) := by omega
  have e1 : m = M.getD (j + i) 0 + Vs.getD i 0 + c - B * c2 := by omega
  rw [e, e1, Int.pow_add]
  grind
theorem madd_top {B X W : Int} {M : List Int} {n j : Nat} {c c2 m : Int} (hl : j + n < M.length) (hv : valB B M + c * B ^ (j + n) = X + W * B ^ j) (hm : m + B * c2 = M.getD (j + n) 0 + 0 + c) :
    valB B (M.set (j + n) m) = X + W * B ^ j - c2 * B ^ (j + n + 1) := by
  rw [valB_set _ _ _ hl, Int.pow_succ]
  have e : valB B M = X + W * B ^ j - c * B ^ (j + n) := by omega
  have e1 : m = M.getD (j + n) 0 + c - B * c2 := by omega
  rw [e, e1]
  grind
theorem top_lo {B : Int} (hB : 0 < B) {V : List Int} (ho : okW B V) {k : Nat} (hl : V.length = k + 2) : (V.getD (k + 1) 0 * B + V.getD k 0) * B ^ k ≤ valB B V := by
  have h1 := (val_lo hB ho k (by omega)).1
  rw [val_drop V k (by omega), val_drop V (k + 1) (by omega), List.drop_eq_nil_of_le (by omega : V.length ≤ k + 1 + 1)] at h1
  simp only [valB] at h1
  have e : (V.getD (k + 1) 0 * B + V.getD k 0) * B ^ k = B ^ k * (V.getD k 0 + B * (V.getD (k + 1) 0 + B * 0)) := by grind
  rw [e]; exact h1
theorem top_hi {B : Int} (hB : 0 < B) {U : List Int} (ho : okW B U) {k : Nat} (hl : k + 2 < U.length) (hz : valB B U < B ^ (k + 3)) :
    valB B U < (U.getD (k + 2) 0 * B * B + U.getD (k + 1) 0 * B + U.getD k 0 + 1) * B ^ k := by
  have h1 := (val_lo hB ho k (by omega)).2
  have h2 : valB B (U.drop (k + 3)) = 0 := valB_zero fun i => by
    have := zero_of_lt hB ho hz (k + 3 + i) (by omega)
    simpa [List.getD_eq_getElem?_getD] using this
  rw [val_drop U k (by omega), val_drop U (k + 1) (by omega), val_drop U (k + 1 + 1) (by omega), h2] at h1
  have e : (U.getD (k + 2) 0 * B * B + U.getD (k + 1) 0 * B + U.getD k 0 + 1) * B ^ k = B ^ k * (U.getD k 0 + B * (U.getD (k + 1) 0 + B * (U.getD (k + 1 + 1) 0 + B * 0)) + 1) := by grind
  rw [e]; exact h1
theorem guess {B : Int} (hB : 0 < B) {U V : List Int} (hU : okW B U) (hV : okW B V) {k j : Nat} {q r : Int} (hl : V.length = k + 2) (hu : j + (k + 2) < U.length) (hz : valB B U < valB B V * B ^ (j + 1))
    (hq : q * V.getD (k + 1) 0 + r = U.getD (j + (k + 2)) 0 * B + U.getD (j + (k + 1)) 0) (hr : r < V.getD (k + 1) 0) (hq0 : 0 ≤ q) : valB B U < (q + 1) * valB B V * B ^ j := by
  have hVl := valB_lt (Int.le_of_lt hB) hV
  rw [hl] at hVl
  have hpj := pw_pos hB (j + 1)
  have h0 : valB B U < B ^ (j + k + 3) := by
    have : valB B V * B ^ (j + 1) < B ^ (k + 2) * B ^ (j + 1) := Int.mul_lt_mul_of_pos_right hVl hpj
    have e : B ^ (j + k + 3) = B ^ (k + 2) * B ^ (j + 1) := by rw [← Int.pow_add]; congr 1; omega
    omega
  have h1 := top_hi hB hU (k := j + k) (by omega) h0
  have b0 := (hU.getD hB (j + k)).2
  have h2 := top_lo hB hV hl
  have v0 := (hV.getD hB k).1
  rw [show j + k + 2 = j + (k + 2) by omega, show j + k + 1 = j + (k + 1) by omega] at h1
  have hp := pw_pos hB (j + k)
  have h3 : U.getD (j + (k + 2)) 0 * B * B + U.getD (j + (k + 1)) 0 * B + U.getD (j + k) 0 + 1 ≤ (q + 1) * (V.getD (k + 1) 0 * B) := by
    have e1 : U.getD (j + (k + 2)) 0 * B * B + U.getD (j + (k + 1)) 0 * B = (q * V.getD (k + 1) 0 + r) * B := by rw [hq]; grind
    have e2 : (q + 1) * (V.getD (k + 1) 0 * B) = q * V.getD (k + 1) 0 * B + V.getD (k + 1) 0 * B := by grind
    have e3 : (r + 1) * B ≤ V.getD (k + 1) 0 * B := Int.mul_le_mul_of_nonneg_right (by omega) (Int.le_of_lt hB)
    rw [e1, e2, Int.add_mul]
    rw [Int.add_mul] at e3
    omega
  have h4 : (q + 1) * (V.getD (k + 1) 0 * B) * B ^ k ≤ (q + 1) * valB B V := by
    have : (V.getD (k + 1) 0 * B) * B ^ k ≤ valB B V := by
      have : (V.getD (k + 1) 0 * B) * B ^ k ≤ (V.getD (k + 1) 0 * B + V.getD k 0) * B ^ k := Int.mul_le_mul_of_nonneg_right (by omega) (Int.le_of_lt (pw_pos hB k))
      omega
    rw [Int.mul_assoc]
    exact Int.mul_le_mul_of_nonneg_left this (by omega)
  have h5 := Int.mul_le_mul_of_nonneg_right h3 (Int.le_of_lt hp)
  have h6 := Int.mul_le_mul_of_nonneg_right h4 (Int.le_of_lt (pw_pos hB j))
  have e : (q + 1) * (V.getD (k + 1) 0 * B) * B ^ (j + k) = (q + 1) * (V.getD (k + 1) 0 * B) * B ^ k * B ^ j := by rw [Int.pow_add]; grind
  rw [e] at h5
  omega
theorem guess_less {B : Int} (hB : 0 < B) {U V : List Int} (hU : okW B U) (hV : okW B V) {k j : Nat} {q r : Int} (hl : V.length = k + 2) (hu : j + (k + 2) < U.length) (hz : valB B U < valB B V * B ^ (j + 1))
    (hq : q * V.getD (k + 1) 0 + r = U.getD (j + (k + 2)) 0 * B + U.getD (j + (k + 1)) 0) (hq0 : 0 ≤ q) (hgt : r * B + U.getD (j + k) 0 < q * V.getD k 0) : valB B U < (q - 1 + 1) * valB B V * B ^ j := by
  have hVl := valB_lt (Int.le_of_lt hB) hV
  rw [hl] at hVl
  have hpj := pw_pos hB (j + 1)
  have h0 : valB B U < B ^ (j + k + 3) := by
    have : valB B V * B ^ (j + 1) < B ^ (k + 2) * B ^ (j + 1) := Int.mul_lt_mul_of_pos_right hVl hpj
    have e : B ^ (j + k + 3) = B ^ (k + 2) * B ^ (j + 1) := by rw [← Int.pow_add]; congr 1; omega
    omega
  have h1 := top_hi hB hU (k := j + k) (by omega) h0
  have h2 := top_lo hB hV hl
  rw [show j + k + 2 = j + (k + 2) by omega, show j + k + 1 = j + (k + 1) by omega] at h1
  have h3 : U.getD (j + (k + 2)) 0 * B * B + U.getD (j + (k + 1)) 0 * B + U.getD (j + k) 0 + 1 ≤ q * (V.getD (k + 1) 0 * B + V.getD k 0) := by
    have e1 : U.getD (j + (k + 2)) 0 * B * B + U.getD (j + (k + 1)) 0 * B = (q * V.getD (k + 1) 0 + r) * B := by rw [hq]; grind
    have e2 : q * (V.getD (k + 1) 0 * B + V.getD k 0) = (q * V.getD (k + 1) 0 + r) * B - r * B + q * V.getD k 0 := by grind
    omega
  have h4 : q * (V.getD (k + 1) 0 * B + V.getD k 0) * B ^ k ≤ q * valB B V := by
    rw [Int.mul_assoc]
    exact Int.mul_le_mul_of_nonneg_left h2 hq0
  have h5 := Int.mul_le_mul_of_nonneg_right h3 (Int.le_of_lt (pw_pos hB (j + k)))
  have h6 := Int.mul_le_mul_of_nonneg_right h4 (Int.le_of_lt (pw_pos hB j))
  have e : q * (V.getD (k + 1) 0 * B + V.getD k 0) * B ^ (j + k) = q * (V.getD (k + 1) 0 * B + V.getD k 0) * B ^ k * B ^ j := by rw [Int.pow_add]; grind
  rw [e] at h5
  rw [show q - 1 + 1 = q by omega]
  omega
theorem guess_top {B X W : Int} {j : Nat} (hz : X < W * B ^ (j + 1)) : X < (B - 1 + 1) * W * B ^ j := by
  rw [Int.pow_succ] at hz
  have e : (B - 1 + 1) * W * B ^ j = W * (B ^ j * B) := by grind
  omega
theorem back_neg {B X W q Y : Int} {m : Nat} {j : Nat} (h : Y = X - q * W * B ^ j + 1 * B ^ m) (hY : Y < B ^ m) : X < q * W * B ^ j := by omega
theorem back_pos {B X W q : Int} {j : Nat} (hW : 0 < W) (hB : 0 < B) (hX : 0 ≤ X) (h : X < q * W * B ^ j) : 1 ≤ q := by
  rcases Int.lt_or_le 0 q with h1 | h1
  · omega
  · have hp := Int.mul_pos hW (pw_pos hB j)
    have : q * (W * B ^ j) ≤ 0 := Int.mul_nonpos_of_nonpos_of_nonneg h1 (Int.le_of_lt hp)
    rw [← Int.mul_assoc] at this
    omega
theorem back_step {B X W q Y Y2 c : Int} {m j : Nat} (h : Y = X - q * W * B ^ j + 1 * B ^ m) (h2 : Y2 = Y + W * B ^ j - c * B ^ m) : Y2 = X - (q - 1) * W * B ^ j + (1 - c) * B ^ m := by
  rw [h2, h]; grind
theorem digit_found {B X W q Y X0 : Int} {j m : Nat} {O : List Int} (hl : j < O.length) (ho : O.getD j 0 = 0) (h : Y = X - q * W * B ^ j + 0 * B ^ m) (hX : X + W * valB B O = X0) (hlt : X < (q + 1) * W * B ^ j) :
    Y + W * valB B (O.set j q) = X0 ∧ Y < W * B ^ j := by
  rw [valB_set _ _ _ hl, ho]
  constructor
  · grind
  · have : (q + 1) * W * B ^ j = q * W * B ^ j + W * B ^ j := by grind
    omega
def shrL (B p : Int) : List Int → List Int
  | [] => []
  | x :: xs => ((x + B * xs.getD 0 0) / p % B) :: shrL B p xs
theorem shrL_len (B p : Int) : ∀ xs : List Int, (shrL B p xs).length = xs.length
  | [] => rfl
  | x :: xs => by simp [shrL, shrL_len B p xs]
theorem shrL_getD (B p : Int) : ∀ (xs : List Int) (i : Nat), i < xs.length → (shrL B p xs).getD i 0 = (xs.getD i 0 + B * xs.getD (i + 1) 0) / p % B
  | [], i, h => by simp at h
  | x :: xs, 0, h => by cases xs <;> simp [shrL]
  | x :: xs, i + 1, h => by simpa [shrL] using shrL_getD B p xs i (by simpa using h)
theorem valB_head {B : Int} (xs : List Int) : valB B xs = xs.getD 0 0 + B * valB B (xs.drop 1) := by cases xs <;> simp [valB]
theorem shrL_val {p m : Int} (hp : 0 < p) (hm : 0 < m) : ∀ {xs : List Int}, okW (p * m) xs → valB (p * m) (shrL (p * m) p xs) = valB (p * m) xs / p
  | [], _ => by simp [shrL, valB]
  | x :: xs, h => by
    have ih := shrL_val hp hm h.tail
    have hB : 0 < p * m := Int.mul_pos hp hm
    have hx := h.head
    have hh := h.tail.getD hB 0
    simp only [shrL, valB, ih]
    have hv := valB_head (B := p * m) xs
    have e0 : valB (p * m) xs / p = xs.getD 0 0 / p + m * valB (p * m) (xs.drop 1) := by
      rw [hv, show xs.getD 0 0 + p * m * valB (p * m) (xs.drop 1) = xs.getD 0 0 + p * (m * valB (p * m) (xs.drop 1)) by grind, Int.add_mul_ediv_left _ _ (Int.ne_of_gt hp)]
    have e1 : (x + p * m * xs.getD 0 0) / p = x / p + m * xs.getD 0 0 := by
      rw [show x + p * m * xs.getD 0 0 = x + p * (m * xs.getD 0 0) by grind, Int.add_mul_ediv_left _ _ (Int.ne_of_gt hp)]
    have e2 : (x + p * m * valB (p * m) xs) / p = x / p + m * valB (p * m) xs := by
      rw [show x + p * m * valB (p * m) xs = x + p * (m * valB (p * m) xs) by grind, Int.add_mul_ediv_left _ _ (Int.ne_of_gt hp)]
    have hxp : x / p < m := Int.ediv_lt_of_lt_mul hp (by rw [Int.mul_comm]; exact hx.2)
    have hxp0 : 0 ≤ x / p := Int.ediv_nonneg hx.1 (Int.le_of_lt hp)
    generalize hH : xs.getD 0 0 = H at *
    generalize hV' : valB (p * m) (xs.drop 1) = V' at *
    have d := Int.mul_ediv_add_emod H p
    have d0 := Int.emod_nonneg H (Int.ne_of_gt hp)
    have d1 := Int.emod_lt_of_pos H hp
    have e3 : (x / p + m * H) % (p * m) = x / p + m * (H % p) := by
      have : x / p + m * H = x / p + m * (H % p) + p * m * (H / p) := by rw [← d]; grind
      rw [this, Int.add_mul_emod_self_left]
      apply Int.emod_eq_of_lt
      · have := Int.mul_nonneg (Int.le_of_lt hm) d0
        omega
      · have h1 : m * (H % p) ≤ m * (p - 1) := Int.mul_le_mul_of_nonneg_left (by omega) (Int.le_of_lt hm)
        have e : m * (p - 1) = p * m - m := by grind
        omega
    rw [e0, e1, e2, e3, hv]
    have e : m * (H + p * m * V') = m * (p * (H / p) + H % p) + p * m * (m * V') := by rw [d]; grind
    rw [e]; grind
theorem bit_zero {xs : List Int} {i : Nat} (ho : okW (2 ^ 32) xs) (hd : (2 : Int) ^ (i + 1) ∣ valB (2 ^ 32) xs) : xs.getD (i / 32) 0 % 2 ^ (i % 32 + 1) = 0 := by
  rw [digit (by decide) (i / 32) ho]
  obtain ⟨t, ht⟩ := hd
  have e : (2 : Int) ^ (i + 1) = (2 ^ 32) ^ (i / 32) * 2 ^ (i % 32 + 1) := by rw [← Int.pow_mul, ← Int.pow_add]; congr 1; omega
  rw [ht, e, Int.mul_assoc, Int.mul_ediv_cancel_left _ (Int.ne_of_gt (Int.pow_pos (Int.pow_pos (by decide))))]
  have e2 : (2 : Int) ^ 32 = 2 ^ (i % 32 + 1) * 2 ^ (31 - i % 32) := by rw [← Int.pow_add]; congr 1; omega
  rw [e2, Int.emod_emod_of_dvd _ (Int.dvd_mul_right _ _)]
  exact Int.mul_emod_right _ _
theorem bit_set {xs : List Int} {i : Nat} {b R a : Int} (hl : i / 32 < xs.length) (h : R + b * valB (2 ^ 32) xs = a) : R - 2 ^ i * b + b * valB (2 ^ 32) (xs.set (i / 32) (xs.getD (i / 32) 0 + 2 ^ (i % 32))) = a := by
  rw [valB_set _ _ _ hl]
  have e : (2 : Int) ^ i = (2 ^ 32) ^ (i / 32) * 2 ^ (i % 32) := by rw [← Int.pow_mul, ← Int.pow_add]; congr 1; omega
  rw [e]
  grind
theorem bit_dvd {xs : List Int} {i : Nat} (hl : i / 32 < xs.length) (hd : (2 : Int) ^ (i + 1) ∣ valB (2 ^ 32) xs) : (2 : Int) ^ i ∣ valB (2 ^ 32) (xs.set (i / 32) (xs.getD (i / 32) 0 + 2 ^ (i % 32))) := by
  rw [valB_set _ _ _ hl]
  have e : (2 : Int) ^ i = (2 ^ 32) ^ (i / 32) * 2 ^ (i % 32) := by rw [← Int.pow_mul, ← Int.pow_add]; congr 1; omega
  obtain ⟨t, ht⟩ := hd
  refine ⟨2 * t + 1, ?_⟩
  rw [ht, Int.pow_succ, e]
  grind
theorem bit_dvd0 {x : Int} {i : Nat} (hd : (2 : Int) ^ (i + 1) ∣ x) : (2 : Int) ^ i ∣ x := by
  obtain ⟨t, ht⟩ := hd
  exact ⟨2 * t, by rw [ht, Int.pow_succ]; grind⟩
theorem bit_lt {R b : Int} {i : Nat} (h : R < b * 2 ^ (i + 1)) : R - 2 ^ i * b < b * 2 ^ i := by
  rw [Int.pow_succ] at h
  have : b * (2 ^ i * 2) = b * 2 ^ i + 2 ^ i * b := by grind
  omega
theorem bits_start {a b : Nat} {n : Nat} (hb : 0 < b) (hn : nbits a = nbits b + n) : (a : Int) < (b : Int) * 2 ^ (n + 1) := by
  have h1 := nbits_lt a
  have h2 := nbits_le (x := b) (by omega)
  have h3 := nbits_pos (x := b) (by omega)
  rw [hn] at h1
  have e : nbits b + n = (nbits b - 1) + (n + 1) := by omega
  rw [e, Nat.pow_add] at h1
  have h4 : 2 ^ (nbits b - 1) * 2 ^ (n + 1) ≤ b * 2 ^ (n + 1) := Nat.mul_le_mul_right _ h2
  have h5 : a < b * 2 ^ (n + 1) := by omega
  have : ((b * 2 ^ (n + 1) : Nat) : Int) = (b : Int) * 2 ^ (n + 1) := by simp
  omega
theorem nbits_mono_lt {a b : Nat} (h : nbits a < nbits b) : a < b := by
  rcases Nat.lt_or_ge a b with h1 | h1
  · exact h1
  · have h2 := nbits_lt a
    have h3 : nbits b ≤ nbits a := nbits_le_iff.2 (by omega)
    omega
theorem div_of {x y q r : Int} (h : r + y * q = x) (h0 : 0 ≤ r) (h1 : r < y) : q = x / y ∧ r = x % y := by
  subst h
  refine ⟨?_, ?_⟩
  · rw [Int.add_mul_ediv_left _ _ (by omega), Int.ediv_eq_zero_of_lt h0 h1]; omega
  · rw [Int.add_mul_emod_self_left, Int.emod_eq_of_lt h0 h1]
theorem div_sc {x y q r p : Int} (hp : 0 < p) (h : r + p * y * q = p * x) (h0 : 0 ≤ r) (h1 : r < p * y) : q = x / y ∧ r / p = x % y ∧ r = p * (x % y) := by
  have hd : r % p = 0 := by
    have : r = p * (x - y * q) := by grind
    rw [this]; exact Int.mul_emod_right _ _
  have e := Int.mul_ediv_add_emod r p
  rw [hd] at e
  have h2 : r / p + y * q = x := by
    have : p * (r / p + y * q) = p * x := by grind
    exact Int.eq_of_mul_eq_mul_left (Int.ne_of_gt hp) this
  have h3 : r / p < y := Int.ediv_lt_of_lt_mul hp (by rw [Int.mul_comm]; exact h1)
  have h4 : 0 ≤ r / p := Int.ediv_nonneg h0 (Int.le_of_lt hp)
  obtain ⟨a, b⟩ := div_of h2 h4 h3
  exact ⟨a, b, by rw [← b]; omega⟩
theorem ediv_of {x y q r : Int} (h : r + y * q = x) (h0 : 0 ≤ r) (h1 : r < (y.natAbs : Int)) : q = x / y ∧ r = x % y := by
  have hy : y ≠ 0 := by omega
  subst h
  have hr : r = (r + y * q) % y := by
    rw [Int.add_mul_emod_self_left]
    rcases Int.lt_or_le y 0 with h | h
    · rw [← Int.emod_neg, Int.emod_eq_of_lt h0 (by omega)]
    · rw [Int.emod_eq_of_lt h0 (by omega)]
  refine ⟨?_, hr⟩
  have e := Int.mul_ediv_add_emod (r + y * q) y
  rw [← hr] at e
  have : y * ((r + y * q) / y) = y * q := by omega
  exact (Int.eq_of_mul_eq_mul_left hy this).symm
theorem over_pos {nx ny : Bool} {x y : Int} (hx : nx = true ↔ x < 0) (hy : ny = true ↔ y < 0) (h0 : y ≠ 0) (hr : ¬ sg nx ((x.natAbs : Int) % (y.natAbs : Int)) < 0) :
    sg (nx != ny) ((x.natAbs : Int) / (y.natAbs : Int)) = x / y ∧ sg nx ((x.natAbs : Int) % (y.natAbs : Int)) = x % y := by
  have e := Int.mul_ediv_add_emod (x.natAbs : Int) (y.natAbs : Int)
  have r0 := Int.emod_nonneg (x.natAbs : Int) (show (y.natAbs : Int) ≠ 0 by omega)
  have r1 := Int.emod_lt_of_pos (x.natAbs : Int) (show 0 < (y.natAbs : Int) by omega)
  generalize (x.natAbs : Int) / (y.natAbs : Int) = Q at *
  generalize (x.natAbs : Int) % (y.natAbs : Int) = R at *
  refine ediv_of ?_ (by omega) (by cases nx <;> simp [sg] at hr ⊢ <;> omega)
  have ex : (x.natAbs : Int) = if nx then -x else x := by cases nx <;> simp at hx <;> simp <;> omega
  have ey : (y.natAbs : Int) = if ny then -y else y := by cases ny <;> simp at hy <;> simp <;> omega
  rw [ex, ey] at e
  cases nx <;> cases ny <;> simp [sg, Int.neg_mul, Int.mul_neg] at e hr ⊢ <;> omega
theorem over_neg {nx ny : Bool} {x y : Int} (hx : nx = true ↔ x < 0) (hy : ny = true ↔ y < 0) (h0 : y ≠ 0) (hr : sg nx ((x.natAbs : Int) % (y.natAbs : Int)) < 0) :
    sg (nx != ny) ((x.natAbs : Int) / (y.natAbs : Int)) + (if ny then 1 else -1) = x / y ∧ sg nx ((x.natAbs : Int) % (y.natAbs : Int)) + (y.natAbs : Int) = x % y := by
  have e := Int.mul_ediv_add_emod (x.natAbs : Int) (y.natAbs : Int)
  have r0 := Int.emod_nonneg (x.natAbs : Int) (show (y.natAbs : Int) ≠ 0 by omega)
  have r1 := Int.emod_lt_of_pos (x.natAbs : Int) (show 0 < (y.natAbs : Int) by omega)
  generalize (x.natAbs : Int) / (y.natAbs : Int) = Q at *
  generalize (x.natAbs : Int) % (y.natAbs : Int) = R at *
  refine ediv_of ?_ (by cases nx <;> simp [sg] at hr ⊢ <;> omega) (by omega)
  have ex : (x.natAbs : Int) = if nx then -x else x := by cases nx <;> simp at hx <;> simp <;> omega
  have ey : (y.natAbs : Int) = if ny then -y else y := by cases ny <;> simp at hy <;> simp <;> omega
  rw [ex, ey] at e
  rw [ey]
  cases nx <;> cases ny <;> simp [sg, Int.neg_mul, Int.mul_neg, Int.mul_add] at e hr ⊢ <;> omega
theorem gcd_step {x y : Int} : ((Int.gcd y (x % y) : Nat) : Int) = ((Int.gcd x y : Nat) : Int) := by
  rw [Int.gcd_comm x y]
  congr 1
  apply Nat.dvd_antisymm
  · refine Int.dvd_gcd (Int.gcd_dvd_left ..) ?_
    have e := Int.mul_ediv_add_emod x y
    have h1 : ((Int.gcd y (x % y) : Nat) : Int) ∣ y * (x / y) + x % y := Int.dvd_add (Int.dvd_trans (Int.gcd_dvd_left ..) (Int.dvd_mul_right _ _)) (Int.gcd_dvd_right ..)
    rwa [e] at h1
  · refine Int.dvd_gcd (Int.gcd_dvd_left ..) ?_
    have e := Int.mul_ediv_add_emod x y
    have h1 : ((Int.gcd y x : Nat) : Int) ∣ x - y * (x / y) := Int.dvd_sub (Int.gcd_dvd_right ..) (Int.dvd_trans (Int.gcd_dvd_left ..) (Int.dvd_mul_right _ _))
    rwa [show x - y * (x / y) = x % y by omega] at h1
def pkz (S : Prop) [Decidable S] (z : Int) : Int := if S then z else 0
theorem w0 : wv3 0 = 0 ∧ wv2 0 = 0 ∧ wv1 0 = 0 ∧ wv0 0 = 0 := by decide
theorem words_z {a3 a2 a1 a0 : Int} (h3 : 0 ≤ a3 ∧ a3 < 18446744073709551616) (h2 : 0 ≤ a2 ∧ a2 < 18446744073709551616) (h1 : 0 ≤ a1 ∧ a1 < 18446744073709551616) (h0 : 0 ≤ a0 ∧ a0 < 18446744073709551616) :
    ∃ z, fits z ∧ a3 = wv3 z ∧ a2 = wv2 z ∧ a1 = wv1 z ∧ a0 = wv0 z := by
  refine ⟨wz a3 a2 a1 a0, ?_⟩
  have hf : fits (wz a3 a2 a1 a0) := by unfold fits wz u256; split <;> omega
  refine ⟨hf, ?_⟩
  unfold wv3 wv2 wv1 wv0
  rw [if_pos hf, if_pos hf, if_pos hf, if_pos hf]
  unfold wz u256
  split <;> omega
def dOk (x y : Int) : Prop := y ≠ 0 ∧ fits (x / y) ∧ fits (x % y)
instance (x y : Int) : Decidable (dOk x y) := by unfold dOk; infer_instance
def gI (x y : Int) : Int := ((Int.gcd x y : Nat) : Int)
theorem gI_pos {x y : Int} (h : y ≠ 0) : 0 < gI x y := by
  have : 0 < Int.gcd x y := Int.gcd_pos_of_ne_zero_right _ h
  unfold gI; omega
theorem gI_dl (x y : Int) : gI x y ∣ x := Int.gcd_dvd_left ..
theorem gI_dr (x y : Int) : gI x y ∣ y := Int.gcd_dvd_right ..
theorem gI_step {x y : Int} : gI y (x % y) = gI x y := gcd_step
theorem gI_zero (x : Int) : gI x 0 = (x.natAbs : Int) := by simp [gI]
theorem gI_zl (x : Int) : gI 0 x = (x.natAbs : Int) := by simp [gI]
theorem gI_abs (x y : Int) : gI (x.natAbs : Int) (y.natAbs : Int) = gI x y := by simp [gI, Int.gcd]
theorem gI_absr (x y : Int) : gI x (y.natAbs : Int) = gI x y := by simp [gI, Int.gcd]
theorem gI_neg (x y : Int) : gI (-x) (-y) = gI x y := by simp [gI, Int.gcd]
def rUp (u d : Int) : Int := (if d < 0 then -u else u) / gI u d
def rDn (u d : Int) : Int := (if d < 0 then -d else d) / gI u d
theorem natAbs_div_lt {x y : Int} {s : Nat} (h : x.natAbs < 2 ^ s) : (x / y).natAbs < 2 ^ s := Nat.lt_of_le_of_lt (Int.natAbs_ediv_le_natAbs x y) h
theorem natAbs_mod_lt {x y : Int} {s : Nat} (h : y.natAbs < 2 ^ s) (h0 : y ≠ 0) : (x % y).natAbs < 2 ^ s := by
  have h1 := Int.emod_nonneg x h0
  have h2 := Int.emod_lt x h0
  omega
def rFit (u d : Int) : Prop := d ≠ 0 ∧ fits (rUp u d) ∧ fits (rDn u d)
instance (u d : Int) : Decidable (rFit u d) := by unfold rFit; infer_instance
def rOk (u d : Int) : Prop := 0 < d ∧ gI u d = 1
instance (u d : Int) : Decidable (rOk u d) := by unfold rOk; infer_instance
def gI3 (x y w : Int) : Int := gI (gI x y) w
def pPt (x y w z : Int) : Int := (if w < 0 then -z else z) / gI3 x y w
theorem gI3_pos {x y w : Int} (h : w ≠ 0) : 0 < gI3 x y w := gI_pos h
theorem gI3_dy (x y w : Int) : gI3 x y w ∣ y := Int.dvd_trans (gI_dl _ _) (gI_dr _ _)
theorem gI3_dw (x y w : Int) : gI3 x y w ∣ w := gI_dr _ _
theorem gI_negr (x y : Int) : gI x (-y) = gI x y := by simp [gI, Int.gcd]
end Go.Proofs.Ytmbpomcbdopgnaa.Fw
namespace Go.Proofs.Ytmbpomcbdopgnaa.Fw
open Go Go.RowKit Go.ChangeShapes Go.WideShapes Go.ChangeAt
theorem trod_again {H : Type} {enc : TypeId × Value → H} {P : Program} {W W' : World} {sp : Nat → Bool} (K : Kids P (· < P.types.size))
    (hz : ∀ t e, t < P.types.size → P.underlying t = some (.slice e) → 0 < P.cellsOf e) (hb : Below W.heap.size W W') :
    ∀ {ts : List TypeId} {vs : List Value} {ds : List (DataW H)} {ps : List MemPlace}, (∀ t ∈ ts, t < P.types.size) → DataW.TrodAll enc P W 0 (fun _ => true) true ts vs ds ps →
      (∀ p ∈ ps, p.block < W.heap.size) → (∀ p ∈ ps, sp p.block = true) → DataW.TrodAll enc P W' 0 sp true ts vs ds ps
  | [], [], [], _, _, h, _, _ => h
  | t :: ts, v :: vs, d :: ds, _, hT, ⟨p, q, h1, h2, e⟩, hlt, hs => by
    subst e
    refine ⟨p, q, ?_, trod_again K hz hb (fun t ht => hT t (List.mem_cons_of_mem _ ht)) h2 (fun x hx => hlt x (List.mem_append_right _ hx)) (fun x hx => hs x (List.mem_append_right _ hx)), rfl⟩
    obtain ⟨n, hn⟩ := h1.respare K hz (hT t (by simp)) (spare' := sp) (fun x hx => hs x (List.mem_append_left _ hx))
    exact ⟨n, DataW.trod_carry n _ _ _ hn fun x hx => hb.same (hlt x (List.mem_append_left _ hx))⟩
theorem law_post {H : Type} {enc : TypeId × Value → H} {P : Program} {f : Func} {s : ChangeSpec} {bt : TypeId} {W W' : World} {args : Array Value} {ds gs : List (DataW H)} {before : List MemPlace}
    (hl : laidOutB P = true) (hm : mapsRowed P = true)
    (hz : ((List.range P.types.size).all fun t => match P.underlying t with | some (.slice e) => decide (0 < P.cellsOf e) | _ => true) = true)
    (hpt : f.params.toList.all (fun t => decide (t < P.types.size)) = true) (hv : s.vars = []) (hr : f.resultTypes = #[bt]) (hbt : P.underlying bt = some .bool)
    (hW : DataW.Whole enc P f.params.toList s.vars false W args.toList ds gs before) (hfn : s.fn H (ds ++ gs) = { results := [.lit (.bool true)], args := ds })
    (hb : Below W.heap.size W W') : s.post enc P f false true false false W args (.bool true) W' := by
  have hlt : ∀ p ∈ before, p.block < W.heap.size := fun p hp => hW.lt p hp
  have hW' := hW
  obtain ⟨p, q, hA, hV, rfl, hfz, hnd⟩ := hW
  have hq : gs = [] ∧ q = [] := by
    rw [hv] at hV
    cases gs with
    | nil => exact ⟨rfl, hV⟩
    | cons g gs => cases hV
  obtain ⟨rfl, rfl⟩ := hq
  have hag := trod_again (sp := fun b => decide (b < W.heap.size)) (kids_rows hl hm) (slices_full_of P hz) hb (fun t ht => by
    have := List.all_eq_true.1 hpt t ht
    simpa using this) hA (fun x hx => hlt x (by simpa using hx)) (fun x hx => by
    have := hlt x (by simpa using hx)
    simpa using this)
  refine ⟨ds, [], p ++ [], [], p, [], hW', ?_, ?_, ?_, hb.frame _, fun h => by cases h⟩
  · rw [hfn, hr]
    exact trodAll_mk1 (shut_bool hbt _)
  · rw [hfn]
    exact hag
  · rw [hfn, hv]
    rfl
theorem ok_ints {P : Program} {w : World} {r : Reach} {base : Nat} {t : TypeId} {v : Value} {fs : Array Field} {ts : List TypeId} {ks : List IntKind} (ht : P.underlying t = some (.struct fs)) (hc : P.cellTypes P.depth t = some ts)
    (hk : ts.map (fun u => P.underlying u) = ks.map fun k => some (TypeDesc.int k)) (hs : P.cellsOf t = ts.length) (h : Value.okWide P w r base t v) :
    ∃ ns : List Int, v = .agg (List.zipWith (fun k x => Value.int k x) ks ns).toArray ∧ ns.length = ks.length ∧ ∀ (i : Nat) (k : IntKind) (x : Int), ks[i]? = some k → ns[i]? = some x → k.has x := by
  unfold Value.okWide at h
  rw [ht] at h
  obtain ⟨cs, rfl, hsz, ts', hts', ⟨_, hall⟩⟩ := h
  obtain rfl : ts = ts' := by rw [hc] at hts'; simpa using hts'
  have hlen : ts.length = ks.length := by have := congrArg List.length hk; simpa using this
  have hcell : ∀ i, i < ks.length → ∃ k x, ks[i]? = some k ∧ cs[i]? = some (.int k x) ∧ k.has x := by
    intro i hi
    have hics : i < cs.size := by rw [hsz, hs, hlen]; exact hi
    obtain ⟨u, hu, hok⟩ := hall i cs[i] (by simp [hics])
    rw [Nat.mod_eq_of_lt (by omega)] at hu
    have hki : P.underlying u = some (.int ks[i]) := by
      have h1 := congrArg (fun l => l[i]?) hk
      simp only [List.getElem?_map, hu, Option.map_some, List.getElem?_eq_getElem hi, Option.some.injEq] at h1
      exact h1
    refine ⟨ks[i], ?_⟩
    unfold Cell.okWide at hok
    rw [hki] at hok
    simp only at hok
    unfold Cell.ok at hok
    rw [hki] at hok
    cases hv : cs[i] <;> rw [hv] at hok <;> simp only at hok
    obtain ⟨rfl, hh⟩ := hok
    refine ⟨_, List.getElem?_eq_getElem hi, ?_, hh⟩
    rw [Array.getElem?_eq_getElem hics, hv]
  refine ⟨cs.toList.map (fun v => match v with | .int _ x => x | _ => 0), ?_, ?_, ?_⟩
  · congr 1
    apply Array.ext_getElem?
    intro i
    by_cases hi : i < ks.length
    · obtain ⟨k, x, h1, h2, h3⟩ := hcell i hi
      have h2' : cs.toList[i]? = some (.int k x) := by simpa using h2
      simp [List.getElem?_zipWith, h1, h2, h2']
    · have : cs.size ≤ i := by rw [hsz, hs, hlen]; omega
      simp [List.getElem?_zipWith, this, Nat.le_of_not_lt hi]
  · simp [hsz, hs, hlen]
  · intro i k x hki hxi
    have hi := (List.getElem?_eq_some_iff.1 hki).1
    obtain ⟨k', x', h1, h2, h3⟩ := hcell i hi
    have h2' : cs.toList[i]? = some (.int k' x') := by simpa using h2
    rw [hki] at h1
    obtain rfl : k = k' := by simpa using h1
    simp only [List.getElem?_map, h2', Option.map_some, Option.some.injEq] at hxi
    subst hxi
    exact h3
end Go.Proofs.Ytmbpomcbdopgnaa.Fw
namespace Go.Proofs.Ytmbpomcbdopgnaa.Fw
open Go Go.RowKit
section
variable {P : Program} {f n : Nat} {R : Ending → World → Prop} {k : List Item} {fr : Fr} {w : World} {ops : Array Oper} {S : World → Prop} {fin : List Nat} {fuel : Nat} {listed : Array Bool}
theorem aw_three (i j l : Nat) {dst dst2 dst3 : Option Tmp} {op op2 op3 : Op} {ty ty2 ty3 : TypeId} {pos pos2 pos3 : String} {af af2 af3 : Array Edge} {g g2 g3 : Option (Nat × Bool)}
    (hi : ops[i]? = some ⟨dst, op, ty, pos, af, g⟩) (hj : ops[j]? = some ⟨dst2, op2, ty2, pos2, af2, g2⟩) (hl : ops[l]? = some ⟨dst3, op3, ty3, pos3, af3, g3⟩)
    (hr : Region.ready .any ops listed = [i, j, l]) (hg : GY ops n fr g) (hg2 : GY ops n fr g2) (hg3 : GY ops n fr g3)
    (h : OE P n op ty fr w fun v w' => (fin.contains i = true ∨ S w') ∧ AW P f n R k ops S fin fuel (listed.setIfInBounds i true) (putO fr dst v) w')
    (h2 : OE P n op2 ty2 fr w fun v w' => (fin.contains j = true ∨ S w') ∧ AW P f n R k ops S fin fuel (listed.setIfInBounds j true) (putO fr dst2 v) w')
    (h3 : OE P n op3 ty3 fr w fun v w' => (fin.contains l = true ∨ S w') ∧ AW P f n R k ops S fin fuel (listed.setIfInBounds l true) (putO fr dst3 v) w') : AW P f n R k ops S fin (fuel + 1) listed fr w := by
  refine wpAnyJ_all (rs := [i, j, l]) hr (by simp) ?_
  intro x hx
  have hx' : x = i ∨ x = j ∨ x = l := by simpa using hx
  rcases hx' with rfl | rfl | rfl
  · exact wpOp_oe x hi hg (K := fun fr w => (fin.contains x = true ∨ S w) ∧ AW P f n R k ops S fin fuel (listed.setIfInBounds x true) fr w)
      (fun fr w hh => ⟨hh.1.imp (by simp) id, hh.2⟩) h
  · exact wpOp_oe x hj hg2 (K := fun fr w => (fin.contains x = true ∨ S w) ∧ AW P f n R k ops S fin fuel (listed.setIfInBounds x true) fr w)
      (fun fr w hh => ⟨hh.1.imp (by simp) id, hh.2⟩) h2
  · exact wpOp_oe x hl hg3 (K := fun fr w => (fin.contains x = true ∨ S w) ∧ AW P f n R k ops S fin fuel (listed.setIfInBounds x true) fr w)
      (fun fr w hh => ⟨hh.1.imp (by simp) id, hh.2⟩) h3
end
abbrev Post := Value → World → Prop
def dstOf (ops : Array Oper) (i : Nat) : Nat := ((ops[i]?).bind (·.dst)).getD 0
def notDst (ops : Array Oper) (t : Nat) : Bool := ops.toList.all fun o => match o.dst with | some d => !Nat.beq d t | none => true
def isDep (o : Oper) (j : Nat) : Bool := o.after.toList.any fun e => Region.binds .any e && Nat.beq e.on j
def notYet (ops : Array Oper) (i t : Nat) : Bool := ops.toList.all fun o => match o.dst with | some d => !Nat.beq d t || isDep o i | none => true
def parAll (S : Nat → Oper → Post → Prop) : Nat → List Oper → List Post → Prop
  | i, o :: os, p :: ps => S i o p ∧ parAll S (i + 1) os ps
  | _, [], [] => True
  | _, _, _ => False
theorem parAll_get {S : Nat → Oper → Post → Prop} : ∀ {i : Nat} {os : List Oper} {ps : List Post}, parAll S i os ps → ∀ {j : Nat} {o : Oper}, os[j]? = some o → ∃ p, ps[j]? = some p ∧ S (i + j) o p
  | i, o :: os, p :: ps, h, 0, o', ho => by
    obtain rfl : o = o' := by simpa using ho
    exact ⟨p, rfl, h.1⟩
  | i, o :: os, p :: ps, h, j + 1, o', ho => by
    obtain ⟨q, h1, h2⟩ := parAll_get h.2 (j := j) (o := o') (by simpa using ho)
    exact ⟨q, by simpa using h1, by rw [show i + (j + 1) = i + 1 + j by omega]; exact h2⟩
  | _, [], [], _, j, o, ho => by simp at ho
  | _, [], _ :: _, h, _, _, _ => h.elim
  | _, _ :: _, [], h, _, _, _ => h.elim
theorem parAll_mk {S : Nat → Oper → Post → Prop} : ∀ {i : Nat} {os : List Oper} {ps : List Post}, os.length = ps.length → (∀ j o p, os[j]? = some o → ps[j]? = some p → S (i + j) o p) → parAll S i os ps
  | i, o :: os, p :: ps, hl, h => ⟨h 0 o p rfl rfl, parAll_mk (by simpa using hl) fun j o' p' ho hp => by rw [show i + 1 + j = i + (j + 1) by omega]; exact h (j + 1) o' p' (by simpa using ho) (by simpa using hp)⟩
  | _, [], [], _, _ => trivial
  | _, [], _ :: _, hl, _ => by simp at hl
  | _, _ :: _, [], hl, _ => by simp at hl
section
variable {P : Program} {f n : Nat} {R : Ending → World → Prop} {k : List Item} {fr : Fr} {w : World} {ops : Array Oper}
structure ParInv (ops : Array Oper) (Ps : List Post) (fr : Fr) (w : World) (listed : Array Bool) (fr' : Fr) (w' : World) : Prop where
  size : listed.size = ops.size
  ext : Ext w w'
  fixed : ∀ t, (∀ j o, ops[j]? = some o → o.dst = some t → listed.getD j true = false) → fr' t = fr t
  shut : ∀ j o, ops[j]? = some o → listed.getD j true = true → ∀ i, isDep o i = true → listed.getD i false = true
  done : ∀ j p, Ps[j]? = some p → listed.getD j true = true → p (fr' (dstOf ops j)) w'
end
def stOk (ops : Array Oper) (s : Nat) : Bool :=
  Nat.blt s ops.size && (List.range ops.size).all fun i => match ops[i]? with
    | some o => o.guard.isNone && (if i = s then o.dst.isNone else o.dst.isSome) && o.after.toList.all (fun e => !Region.binds .any e || Nat.blt e.on i) && (List.range ops.size).all (fun j => Nat.beq i j || Nat.beq i s || Nat.beq j s || !Nat.beq (dstOf ops i) (dstOf ops j))
    | none => false
def stAll (S : Nat → Oper → Value → Prop) : Nat → List Oper → List Value → Prop
  | i, o :: os, p :: ps => S i o p ∧ stAll S (i + 1) os ps
  | _, [], [] => True
  | _, _, _ => False
theorem stAll_get {S : Nat → Oper → Value → Prop} : ∀ {i : Nat} {os : List Oper} {ps : List Value}, stAll S i os ps → ∀ {j : Nat} {o : Oper}, os[j]? = some o → ∃ p, ps[j]? = some p ∧ S (i + j) o p
  | i, o :: os, p :: ps, h, 0, o', ho => by
    obtain rfl : o = o' := by simpa using ho
    exact ⟨p, rfl, h.1⟩
  | i, o :: os, p :: ps, h, j + 1, o', ho => by
    obtain ⟨q, h1, h2⟩ := stAll_get h.2 (j := j) (o := o') (by simpa using ho)
    exact ⟨q, by simpa using h1, by rw [show i + (j + 1) = i + 1 + j by omega]; exact h2⟩
  | _, [], [], _, j, o, ho => by simp at ho
  | _, [], _ :: _, h, _, _, _ => h.elim
  | _, _ :: _, [], h, _, _, _ => h.elim
theorem stAll_mk {S : Nat → Oper → Value → Prop} : ∀ {i : Nat} {os : List Oper} {ps : List Value}, os.length = ps.length → (∀ j o p, os[j]? = some o → ps[j]? = some p → S (i + j) o p) → stAll S i os ps
  | i, o :: os, p :: ps, hl, h => ⟨h 0 o p rfl rfl, stAll_mk (by simpa using hl) fun j o' p' ho hp => by rw [show i + 1 + j = i + (j + 1) by omega]; exact h (j + 1) o' p' (by simpa using ho) (by simpa using hp)⟩
  | _, [], [], _, _ => trivial
  | _, [], _ :: _, hl, _ => by simp at hl
  | _, _ :: _, [], hl, _ => by simp at hl
theorem stAll_len (S : Nat → Oper → Value → Prop) (i : Nat) (os : List Oper) (ps : List Value) (h : stAll S i os ps) : os.length = ps.length := by
  induction os generalizing i ps with
  | nil => cases ps with
    | nil => rfl
    | cons p ps => exact h.elim
  | cons o os ih => cases ps with
    | nil => exact h.elim
    | cons p ps => simp [ih _ _ h.2]
section
variable {P : Program} {f n : Nat} {R : Ending → World → Prop} {k : List Item} {fr : Fr} {w : World} {ops : Array Oper}
structure StInv (ops : Array Oper) (s : Nat) (Vs : List Value) (K : World → Prop) (fr : Fr) (w1 : World) (listed : Array Bool) (fr' : Fr) (w' : World) : Prop where
  size : listed.size = ops.size
  fixed : ∀ t, (∀ j o, ops[j]? = some o → o.dst = some t → listed.getD j true = false) → fr' t = fr t
  shut : ∀ j o, ops[j]? = some o → listed.getD j true = true → ∀ i, isDep o i = true → listed.getD i false = true
  done : ∀ j v, Vs[j]? = some v → j ≠ s → listed.getD j true = true → fr' (dstOf ops j) = v
  before : listed.getD s true = false → w' = w1
  after : listed.getD s true = true → K w'
theorem stOk_at {s : Nat} (h : stOk ops s = true) {i : Nat} {o : Oper} (ho : ops[i]? = some o) :
    s < ops.size ∧ o.guard = none ∧ (i = s → o.dst = none) ∧ (i ≠ s → ∃ d, o.dst = some d ∧ dstOf ops i = d) ∧ (∀ e ∈ o.after, Region.binds .any e = true → e.on < i) ∧ (i ≠ s → ∀ j, j < ops.size → j ≠ i → j ≠ s → dstOf ops j ≠ dstOf ops i) := by
  have hi := (Array.getElem?_eq_some_iff.1 ho).1
  simp only [stOk, Bool.and_eq_true] at h
  obtain ⟨hs, h⟩ := h
  have h1 := List.all_eq_true.1 h i (by simpa using hi)
  simp only [ho, Bool.and_eq_true, Option.isNone_iff_eq_none, List.all_eq_true, Bool.or_eq_true, Bool.not_eq_true', List.mem_range, Array.mem_toList_iff] at h1
  obtain ⟨⟨⟨h2, h3⟩, h4⟩, h5⟩ := h1
  refine ⟨by simpa using hs, h2, fun he => ?_, fun he => ?_, fun e he hb => ?_, fun his j hj hne hjs heq => ?_⟩
  · rw [if_pos he] at h3; simpa using h3
  · rw [if_neg he, Option.isSome_iff_exists] at h3
    obtain ⟨d, h3⟩ := h3
    exact ⟨d, h3, by simp [dstOf, ho, h3]⟩
  · rcases h4 e he with h | h
    · rw [hb] at h; cases h
    · simpa using h
  · rcases h5 j hj with ((h | h) | h) | h
    · exact hne (Nat.eq_of_beq_eq_true h).symm
    · exact his (Nat.eq_of_beq_eq_true h)
    · exact hjs (Nat.eq_of_beq_eq_true h)
    · rw [heq] at h
      simp at h
theorem rk_st {id : Nat} (s : Nat) (Vs : List Value) (K : World → Prop) (hm : P.follows .mixedOrders = true) (hok : stOk ops s = true)
    (hstep : ∀ w1, Drew w w1 → stAll (fun i o v => ∀ fr' w', (i = s ∨ ((ops[s]?).map (isDep · i)).getD false = true → w' = w1) → (∀ t, notYet ops i t = true → fr' t = fr t) → (∀ j q, j ≠ s → Vs[j]? = some q → isDep o j = true → fr' (dstOf ops j) = q) →
      OE P n o.op o.type fr' w' fun u w'' => if i = s then K w'' else u = v ∧ w'' = w') 0 ops.toList Vs)
    (hk : ∀ fr' w', K w' → (∀ t, notDst ops t = true → fr' t = fr t) → stAll (fun i o v => i = s ∨ fr' (dstOf ops i) = v) 0 ops.toList Vs → RunK P f n R k fr' w') :
    RunK P f n R (.code (.region id ops true) :: k) fr w := by
  refine rk_any (fun _ => True) [] hm fun w1 hdr => ?_
  have hst := hstep w1 hdr
  have hlen := stAll_len _ _ _ _ hst
  have hfix : ∀ {listed : Array Bool} {fr' : Fr} {w' : World}, StInv ops s Vs K fr w1 listed fr' w' → ∀ i, listed.getD i false = false → ∀ t, notYet ops i t = true → fr' t = fr t := by
    intro listed fr' w' hI i hl t ht
    refine hI.fixed t fun j o ho hd => ?_
    have h1 := List.all_eq_true.1 ht o (by have := Array.mem_of_getElem? ho; simpa using this)
    rw [hd] at h1
    simp only [Bool.or_eq_true, Bool.not_eq_true'] at h1
    rcases h1 with h1 | h1
    · simp at h1
    · cases hj : listed.getD j true with
      | false => rfl
      | true => rw [hI.shut j o ho hj i h1] at hl; cases hl
  have hlen' : ops.size = Vs.length := by simpa using hlen
  have main : ∀ (fuel : Nat) (listed : Array Bool) (fr' : Fr) (w' : World), StInv ops s Vs K fr w1 listed fr' w' → (listed.toList.count false ≤ fuel) → AW P f n R k ops (fun _ => True) [] fuel listed fr' w' := by
    have fin : ∀ (listed : Array Bool) (fr' : Fr) (w' : World), StInv ops s Vs K fr w1 listed fr' w' → Region.ready .any ops listed = [] → RunK P f n R k fr' w' := by
      intro listed fr' w' hI hr
      have hall : ∀ i, i < ops.size → listed.getD i true = true := by
        intro i
        induction i using Nat.strongRecOn with
        | _ i ih =>
          intro hi
          cases hl : listed.getD i true with
          | true => rfl
          | false =>
            exfalso
            have ho : ops[i]? = some ops[i] := Array.getElem?_eq_getElem hi
            have : i ∈ Region.ready .any ops listed := mem_ready.2 ⟨hl, _, ho, fun e he hb => by
              have h1 := (stOk_at hok ho).2.2.2.2.1 e he hb
              have h2 := ih e.on h1 (by omega)
              have h3 : e.on < listed.size := by rw [hI.size]; omega
              simpa [h3] using h2⟩
            rw [hr] at this
            cases this
      have hss : listed.getD s true = true := by
        by_cases h : s < ops.size
        · exact hall s h
        · have : ¬ s < listed.size := by rw [hI.size]; exact h
          simp [this]
      refine hk fr' w' (hI.after hss) (fun t ht => hI.fixed t fun j o ho hd => by
        exfalso
        have h4 := List.all_eq_true.1 ht o (by have := Array.mem_of_getElem? ho; simpa using this)
        rw [hd] at h4
        simp at h4) (stAll_mk hlen fun j o v ho hp => ?_)
      have hj : j < ops.size := by have := (List.getElem?_eq_some_iff.1 ho).1; simpa using this
      rw [Nat.zero_add]
      by_cases hjs : j = s
      · exact .inl hjs
      · exact .inr (hI.done j v hp hjs (hall j hj))
    intro fuel
    induction fuel with
    | zero =>
      intro listed fr' w' hI hc
      refine aw_done ?_ (fin listed fr' w' hI ?_)
      all_goals
        rw [List.eq_nil_iff_forall_not_mem]
        intro i hi
        obtain ⟨h1, o, ho, _⟩ := mem_ready.1 hi
        have hlt : i < listed.size := by rw [hI.size]; exact (Array.getElem?_eq_some_iff.1 ho).1
        have h2 : listed[i] = false := by simpa [hlt] using h1
        have : 0 < listed.toList.count false := List.count_pos_iff.2 (by rw [← h2]; simp)
        omega
    | succ fuel ih =>
      intro listed fr' w' hI hc
      by_cases hr : Region.ready .any ops listed = []
      · exact aw_done hr (fin listed fr' w' hI hr)
      · refine wpAnyJ_all (rs := Region.ready .any ops listed) rfl hr ?_
        intro i hi
        obtain ⟨h1, o, ho, hd⟩ := mem_ready.1 hi
        obtain ⟨hsz, hg, hds, hdn, hlt, hne⟩ := stOk_at hok ho
        obtain ⟨v, hp, hs⟩ := stAll_get hst (j := i) (o := o) (by simpa using ho)
        rw [Nat.zero_add] at hs
        have hil : i < listed.size := by rw [hI.size]; exact (Array.getElem?_eq_some_iff.1 ho).1
        have hslt : s < listed.size := by rw [hI.size]; exact hsz
        have hcount : ∀ b : Bool, (listed.setIfInBounds i true).toList.count false ≤ fuel := by
          intro _
          have h2 : listed[i] = false := by simpa [hil] using h1
          have hl2 : i < listed.toList.length := by simpa using hil
          have h5 : listed.toList[i] = false := by simpa using h2
          have hpos : 0 < listed.toList.count false := List.count_pos_iff.2 (by rw [← h5]; exact List.getElem_mem hl2)
          rw [Array.toList_setIfInBounds, List.count_set hl2, h5]
          have e1 : ((false == false) = true) := rfl
          have e2 : ¬ ((true == false) = true) := by decide
          rw [if_pos e1, if_neg e2]
          omega
        have hdeps : ∀ j, isDep o j = true → listed.getD j false = true ∧ j < i := fun j hdep => by
          simp only [isDep, List.any_eq_true, Bool.and_eq_true, Array.mem_toList_iff] at hdep
          obtain ⟨e, he, hb, hj⟩ := hdep
          obtain rfl : e.on = j := Nat.eq_of_beq_eq_true hj
          exact ⟨hd e he hb, hlt e he hb⟩
        have hs' := hs fr' w' (fun hor => by
          refine hI.before ?_
          rcases hor with rfl | hor
          · exact h1
          · cases hls : listed.getD s true with
            | false => rfl
            | true =>
              exfalso
              have ho2 : ops[s]? = some ops[s] := Array.getElem?_eq_getElem hsz
              rw [ho2] at hor
              have h6 := hI.shut s _ ho2 hls i (by simpa using hor)
              simp [hil] at h6 h1
              rw [h6] at h1
              cases h1) (hfix hI i (by simpa [hil] using h1)) (fun j q hjs hq hdep => by
          obtain ⟨h6, h7⟩ := hdeps j hdep
          have hjl : j < listed.size := by omega
          exact hI.done j q hq hjs (by simpa [hjl] using h6))
        have hset : ∀ j, listed.getD j true = true → (listed.setIfInBounds i true).getD j true = true := fun j hj => by
          by_cases hji : i = j
          · subst hji; simp [hil]
          · rw [getD_set_ne true hji]; exact hj
        have hsetf : ∀ j, listed.getD j false = true → (listed.setIfInBounds i true).getD j false = true := fun j hj => by
          by_cases hji : i = j
          · subst hji; simp [hil]
          · rw [getD_set_ne false hji]; exact hj
        obtain ⟨dst, op, ty, pos, af, g⟩ := o
        subst hg
        by_cases his : i = s
        · subst his
          obtain rfl := hds rfl
          refine wpOp_oe i ho .none (K := fun fr2 w2 => (i ∈ ([] : List Nat) ∨ True) ∧ AW P f n R k ops (fun _ => True) [] fuel (listed.setIfInBounds i true) fr2 w2) (fun fr2 w2 hh => hh) (hs'.mono fun u w2 hK => ⟨.inr trivial, ih _ _ _ ⟨by simp [hI.size], fun t ht => hI.fixed t fun j o' ho' hd' => ?_, fun j o' ho' hj i' hdep => by
            by_cases hji : i = j
            · subst hji
              rw [ho] at ho'
              injection ho' with ho'
              subst ho'
              exact hsetf _ (hdeps i' hdep).1
            · rw [getD_set_ne true hji] at hj
              exact hsetf _ (hI.shut j o' ho' hj i' hdep), fun j q hq hji hj => ?_, fun hf => ?_, fun _ => by simpa using hK⟩ (hcount true)⟩)
          · have h5 := ht j o' ho' hd'
            by_cases hji : i = j
            · subst hji
              rw [ho] at ho'
              exact absurd hd' (by rw [← Option.some.inj ho']; simp)
            · rwa [getD_set_ne true hji] at h5
          · rw [getD_set_ne true (Ne.symm hji)] at hj
            exact hI.done j q hq hji hj
          · simp [hil] at hf
        · obtain ⟨d, hdst, hdo⟩ := hdn his
          simp only at hdst
          subst hdst
          refine wpOp_oe i ho .none (K := fun fr2 w2 => (i ∈ ([] : List Nat) ∨ True) ∧ AW P f n R k ops (fun _ => True) [] fuel (listed.setIfInBounds i true) fr2 w2) (fun fr2 w2 hh => hh) (hs'.mono fun u w2 hu => ⟨.inr trivial, ?_⟩)
          rw [if_neg his] at hu
          obtain ⟨rfl, rfl⟩ := hu
          refine ih _ _ _ ⟨by simp [hI.size], fun t ht => ?_, fun j o' ho' hj i' hdep => by
            by_cases hji : i = j
            · subst hji
              rw [ho] at ho'
              injection ho' with ho'
              subst ho'
              exact hsetf _ (hdeps i' hdep).1
            · rw [getD_set_ne true hji] at hj
              exact hsetf _ (hI.shut j o' ho' hj i' hdep), fun j q hq hjs hj => ?_, fun hf => ?_, fun ht => ?_⟩ (hcount true)
          · have h2 := hI.fixed t fun j o' ho' hd' => by
              have h5 := ht j o' ho' hd'
              by_cases hji : i = j
              · subst hji; simp [hil] at h5
              · rwa [getD_set_ne true hji] at h5
            have h3 : Nat.beq t d = false := by
              rw [← Bool.not_eq_true]
              intro hb
              have := Nat.eq_of_beq_eq_true hb
              subst this
              have h5 := ht i _ ho rfl
              simp [hil] at h5
            show upd fr' d u t = fr t
            simp only [upd, h3, cond_false]
            exact h2
          · show upd fr' d u (dstOf ops j) = q
            by_cases hji : j = i
            · subst hji
              rw [hp] at hq
              injection hq with hq
              subst hq
              have : Nat.beq (dstOf ops j) d = true := by rw [hdo]; simp
              simp only [upd, this, cond_true]
            · rw [getD_set_ne true (Ne.symm hji)] at hj
              have hjz : j < ops.size := by
                have := (List.getElem?_eq_some_iff.1 hq).1
                omega
              have hbeq : Nat.beq (dstOf ops j) d = false := by
                rw [← Bool.not_eq_true]
                intro hb
                exact hne his j hjz hji hjs (by rw [Nat.eq_of_beq_eq_true hb, hdo])
              simp only [upd, hbeq, cond_false]
              exact hI.done j q hq hjs hj
          · rw [getD_set_ne true his] at hf
            exact hI.before hf
          · rw [getD_set_ne true his] at ht
            exact hI.after ht
  refine main ops.size _ fr w1 ⟨by simp, fun t _ => rfl, fun j o ho hj => ?_, fun j v hv hjs hj => ?_, fun _ => rfl, fun hs => ?_⟩ ?_
  · exfalso
    have hjs := (Array.getElem?_eq_some_iff.1 ho).1
    simp [hjs] at hj
  · exfalso
    have hjs : j < ops.size := by
      have := (List.getElem?_eq_some_iff.1 hv).1
      omega
    simp [hjs] at hj
  · exfalso
    have hsz : s < ops.size := by
      have h0 : stOk ops s = true := hok
      simp only [stOk, Bool.and_eq_true] at h0
      simpa using h0.1
    simp [hsz] at hs
  · have := List.count_le_length (a := false) (l := (Array.replicate ops.size false).toList)
    simp
end
structure Al where
  a : Nat
  s : Nat
  xi : Nat
  T : Nat
  cs : Array Value
def isSt (As : List Al) (i : Nat) : Bool := As.any fun e => Nat.beq e.s i
def isAl (As : List Al) (i : Nat) : Bool := As.any fun e => Nat.beq e.a i
def parOk2 (ops : Array Oper) (As : List Al) : Bool :=
  ((List.range ops.size).all fun i => match ops[i]? with
    | some o => o.guard.isNone && (if isSt As i then o.dst.isNone && !isAl As i else o.dst.isSome) && o.after.toList.all (fun e => !Region.binds .any e || Nat.blt e.on i) &&
        (List.range ops.size).all (fun j => Nat.beq i j || isSt As i || isSt As j || !Nat.beq (dstOf ops i) (dstOf ops j))
    | none => false) &&
  As.all fun e => Nat.blt e.a ops.size && Nat.blt e.xi ops.size && !isSt As e.xi && !isAl As e.xi && (match ops[e.s]? with | some o => isDep o e.a && isDep o e.xi | none => false) &&
    As.all fun e' => (Nat.beq e.a e'.a && Nat.beq e.s e'.s && Nat.beq e.xi e'.xi && Nat.beq e.T e'.T) || (!Nat.beq e.a e'.a && !Nat.beq e.s e'.s)
def alAll (S : Al → Prop) : List Al → Prop
  | [] => True
  | e :: es => S e ∧ alAll S es
theorem alAll_get {S : Al → Prop} : ∀ {es : List Al}, alAll S es → ∀ e ∈ es, S e
  | e :: es, h, x, hx => by
    rcases List.mem_cons.1 hx with rfl | hx
    · exact h.1
    · exact alAll_get h.2 x hx
  | [], _, x, hx => by cases hx
theorem alAll_mk {S : Al → Prop} : ∀ {es : List Al}, (∀ e ∈ es, S e) → alAll S es
  | [], _ => trivial
  | e :: es, h => ⟨h e (by simp), alAll_mk fun x hx => h x (List.mem_cons_of_mem _ hx)⟩
def perAll2 (TS : List Nat) : List Post → Prop
  | [] => True
  | p :: ps => ((∀ v w w', Ext w w' → p v w → p v w') ∧ (∀ v w w' b cs T fz, St b w w' → w.heap[b]? = some (.cells cs T fz) → T ∈ TS → p v w → p v w')) ∧ perAll2 TS ps
theorem perAll2_get {TS : List Nat} : ∀ {ps : List Post}, perAll2 TS ps → ∀ {j : Nat} {p : Post}, ps[j]? = some p → (∀ v w w', Ext w w' → p v w → p v w') ∧ (∀ v w w' b cs T fz, St b w w' → w.heap[b]? = some (.cells cs T fz) → T ∈ TS → p v w → p v w')
  | p :: ps, h, 0, q, hq => by
    obtain rfl : p = q := by simpa using hq
    exact h.1
  | p :: ps, h, j + 1, q, hq => perAll2_get h.2 (by simpa using hq)
  | [], _, j, q, hq => by simp at hq
theorem ts_ne {T T' : Nat} {TS : List Nat} (h : T ∈ TS) (hd : TS.contains T' = false) : T ≠ T' := fun he => by
  subst he
  have : TS.contains T = true := by simpa using h
  rw [hd] at this
  cases this
theorem nst {As : List Al} {i : Nat} (h : isSt As i = false) : ¬ isSt As i = true := by rw [h]; decide
section
variable {P : Program} {f n : Nat} {R : Ending → World → Prop} {k : List Item} {fr : Fr} {w : World} {ops : Array Oper}
def Mem (ops : Array Oper) (w : World) (listed : Array Bool) (fr' : Fr) (w' : World) (e : Al) : Prop :=
  ∃ b, fr' (dstOf ops e.a) = .pointer (some ⟨b, 0, none⟩) ∧ w.heap.size ≤ b ∧ ((listed.getD e.s true = false ∧ w'.heap[b]? = some (.cells e.cs e.T)) ∨ (listed.getD e.s true = true ∧ w'.heap[b]? = some (.cells (fr' (dstOf ops e.xi)).cells e.T)))
structure ParInv2 (ops : Array Oper) (Ps : List Post) (As : List Al) (fr : Fr) (w : World) (listed : Array Bool) (fr' : Fr) (w' : World) : Prop where
  size : listed.size = ops.size
  ext : Ext w w'
  fixed : ∀ t, (∀ j o, ops[j]? = some o → o.dst = some t → listed.getD j true = false) → fr' t = fr t
  shut : ∀ j o, ops[j]? = some o → listed.getD j true = true → ∀ i, isDep o i = true → listed.getD i false = true
  done : ∀ j p, Ps[j]? = some p → isSt As j = false → listed.getD j true = true → p (fr' (dstOf ops j)) w'
  mem : ∀ e ∈ As, listed.getD e.a true = true → Mem ops w listed fr' w' e
  dist : ∀ e ∈ As, ∀ e' ∈ As, e.a ≠ e'.a → listed.getD e.a true = true → listed.getD e'.a true = true → fr' (dstOf ops e.a) ≠ fr' (dstOf ops e'.a)
theorem parOk2_at {As : List Al} (h : parOk2 ops As = true) {i : Nat} {o : Oper} (ho : ops[i]? = some o) :
    o.guard = none ∧ (isSt As i = true → o.dst = none ∧ isAl As i = false) ∧ (isSt As i = false → ∃ d, o.dst = some d ∧ dstOf ops i = d) ∧ (∀ e ∈ o.after, Region.binds .any e = true → e.on < i) ∧
    (isSt As i = false → ∀ j, j < ops.size → j ≠ i → isSt As j = false → dstOf ops j ≠ dstOf ops i) := by
  have hi := (Array.getElem?_eq_some_iff.1 ho).1
  simp only [parOk2, Bool.and_eq_true] at h
  have h1 := List.all_eq_true.1 h.1 i (by simpa using hi)
  simp only [ho, Bool.and_eq_true, Option.isNone_iff_eq_none, List.all_eq_true, Bool.or_eq_true, Bool.not_eq_true', List.mem_range, Array.mem_toList_iff] at h1
  obtain ⟨⟨⟨h2, h3⟩, h4⟩, h5⟩ := h1
  refine ⟨h2, fun he => ?_, fun he => ?_, fun e he hb => ?_, fun his j hj hne hjs heq => ?_⟩
  · rw [if_pos he] at h3
    simpa using h3
  · rw [if_neg (by rw [he]; decide), Option.isSome_iff_exists] at h3
    obtain ⟨d, h3⟩ := h3
    exact ⟨d, h3, by simp [dstOf, ho, h3]⟩
  · rcases h4 e he with h | h
    · rw [hb] at h; cases h
    · simpa using h
  · rcases h5 j hj with ((h | h) | h) | h
    · exact hne (Nat.eq_of_beq_eq_true h).symm
    · rw [his] at h; cases h
    · rw [hjs] at h; cases h
    · rw [heq] at h
      simp at h
theorem parOk2_al {As : List Al} (h : parOk2 ops As = true) {e : Al} (he : e ∈ As) :
    e.a < ops.size ∧ e.xi < ops.size ∧ isSt As e.xi = false ∧ isAl As e.xi = false ∧ (∃ o, ops[e.s]? = some o ∧ isDep o e.a = true ∧ isDep o e.xi = true) ∧ ∀ e' ∈ As, (e.a = e'.a ∧ e.s = e'.s ∧ e.xi = e'.xi ∧ e.T = e'.T) ∨ (e.a ≠ e'.a ∧ e.s ≠ e'.s) := by
  simp only [parOk2, Bool.and_eq_true] at h
  have h1 := List.all_eq_true.1 h.2 e he
  simp only [Bool.and_eq_true, Bool.not_eq_true', List.all_eq_true, Bool.or_eq_true] at h1
  obtain ⟨⟨⟨⟨⟨h2, h3⟩, h4⟩, h5⟩, h6⟩, h7⟩ := h1
  refine ⟨by simpa using h2, by simpa using h3, h4, h5, ?_, fun e' he' => ?_⟩
  · cases ho : ops[e.s]? with
    | none => rw [ho] at h6; cases h6
    | some o => rw [ho] at h6; exact ⟨o, rfl, by simpa using h6⟩
  · rcases h7 e' he' with h8 | h8
    · exact .inl ⟨Nat.eq_of_beq_eq_true h8.1.1.1, Nat.eq_of_beq_eq_true h8.1.1.2, Nat.eq_of_beq_eq_true h8.1.2, Nat.eq_of_beq_eq_true h8.2⟩
    · exact .inr ⟨fun hh => by rw [hh] at h8; simp at h8, fun hh => by rw [hh] at h8; simp at h8⟩
theorem isSt_mem {As : List Al} {e : Al} (he : e ∈ As) : isSt As e.s = true := List.any_eq_true.2 ⟨e, he, by simp⟩
theorem isAl_mem {As : List Al} {e : Al} (he : e ∈ As) : isAl As e.a = true := List.any_eq_true.2 ⟨e, he, by simp⟩
theorem rk_par2 {id : Nat} (Ps : List Post) (As : List Al) (TS : List Nat) (hm : P.follows .mixedOrders = true) (hok : parOk2 ops As = true) (hTS : As.all (fun e => TS.contains e.T) = true) (hnd : ∀ e ∈ As, ∀ e' ∈ As, e.a = e'.a → e = e') (hper : perAll2 TS Ps)
    (hstep : parAll (fun i o p => (isSt As i = true ∨ isAl As i = true ∧ ∀ v w, p v w) ∨ isAl As i = false ∧ ∀ fr' w', Ext w w' → (∀ t, notYet ops i t = true → fr' t = fr t) → (∀ j q, isSt As j = false → Ps[j]? = some q → isDep o j = true → q (fr' (dstOf ops j)) w') →
      OE P n o.op o.type fr' w' fun v w'' => Ext w' w'' ∧ p v w'') 0 ops.toList Ps)
    (hal : alAll (fun e => (∃ o, ops[e.a]? = some o ∧ ∀ fr' w', OE P n o.op o.type fr' w' fun v w'' => ∃ b, v = .pointer (some ⟨b, 0, none⟩) ∧ New w' b (.cells e.cs e.T) w'') ∧
      (∃ o, ops[e.s]? = some o ∧ ∀ fr' w' b, Ext w w' → (∀ t, notYet ops e.s t = true → fr' t = fr t) → (∀ j q, isSt As j = false → Ps[j]? = some q → isDep o j = true → q (fr' (dstOf ops j)) w') → fr' (dstOf ops e.a) = .pointer (some ⟨b, 0, none⟩) → w'.heap[b]? = some (.cells e.cs e.T) →
        OE P n o.op o.type fr' w' fun _ w'' => St b w' w'' ∧ w''.heap[b]? = some (.cells (fr' (dstOf ops e.xi)).cells e.T))) As)
    (hk : ∀ fr' w', Ext w w' → (∀ t, notDst ops t = true → fr' t = fr t) → parAll (fun i o p => isSt As i = true ∨ p (fr' (dstOf ops i)) w') 0 ops.toList Ps →
      alAll (fun e => ∃ b, fr' (dstOf ops e.a) = .pointer (some ⟨b, 0, none⟩) ∧ w.heap.size ≤ b ∧ w'.heap[b]? = some (.cells (fr' (dstOf ops e.xi)).cells e.T)) As →
      (∀ e ∈ As, ∀ e' ∈ As, e.a ≠ e'.a → fr' (dstOf ops e.a) ≠ fr' (dstOf ops e'.a)) → RunK P f n R k fr' w') :
    RunK P f n R (.code (.region id ops true) :: k) fr w := by
  have hfix : ∀ {listed : Array Bool} {fr' : Fr} {w' : World}, ParInv2 ops Ps As fr w listed fr' w' → ∀ i, listed.getD i false = false → ∀ t, notYet ops i t = true → fr' t = fr t := by
    intro listed fr' w' hI i hl t ht
    refine hI.fixed t fun j o ho hd => ?_
    have h1 := List.all_eq_true.1 ht o (by have := Array.mem_of_getElem? ho; simpa using this)
    rw [hd] at h1
    simp only [Bool.or_eq_true, Bool.not_eq_true'] at h1
    rcases h1 with h1 | h1
    · simp at h1
    · cases hj : listed.getD j true with
      | false => rfl
      | true => rw [hI.shut j o ho hj i h1] at hl; cases hl
  have hlen : ops.toList.length = Ps.length := by
    have : ∀ (S : Nat → Oper → Post → Prop) (i : Nat) (os : List Oper) (ps : List Post), parAll S i os ps → os.length = ps.length := by
      intro S i os
      induction os generalizing i with
      | nil => intro ps h; cases ps with
        | nil => rfl
        | cons p ps => exact h.elim
      | cons o os ih => intro ps h; cases ps with
        | nil => exact h.elim
        | cons p ps => simp [ih _ _ h.2]
    exact this _ _ _ _ hstep
  have hlen' : ops.size = Ps.length := by simpa using hlen
  have hdstlt : ∀ {i : Nat}, i < ops.size → True := fun _ => trivial
  have main : ∀ (fuel : Nat) (listed : Array Bool) (fr' : Fr) (w' : World), ParInv2 ops Ps As fr w listed fr' w' → (listed.toList.count false ≤ fuel) → AW P f n R k ops (fun _ => True) [] fuel listed fr' w' := by
    have fin : ∀ (listed : Array Bool) (fr' : Fr) (w' : World), ParInv2 ops Ps As fr w listed fr' w' → Region.ready .any ops listed = [] → RunK P f n R k fr' w' := by
      intro listed fr' w' hI hr
      have hall : ∀ i, i < ops.size → listed.getD i true = true := by
        intro i
        induction i using Nat.strongRecOn with
        | _ i ih =>
          intro hi
          cases hl : listed.getD i true with
          | true => rfl
          | false =>
            exfalso
            have ho : ops[i]? = some ops[i] := Array.getElem?_eq_getElem hi
            have : i ∈ Region.ready .any ops listed := mem_ready.2 ⟨hl, _, ho, fun e he hb => by
              have h1 := (parOk2_at hok ho).2.2.2.1 e he hb
              have h2 := ih e.on h1 (by omega)
              have h3 : e.on < listed.size := by rw [hI.size]; omega
              simpa [h3] using h2⟩
            rw [hr] at this
            cases this
      have halt : ∀ i, listed.getD i true = true := fun i => by
        by_cases h : i < ops.size
        · exact hall i h
        · have : ¬ i < listed.size := by rw [hI.size]; exact h
          simp [this]
      refine hk fr' w' hI.ext (fun t ht => hI.fixed t fun j o ho hd => by
        exfalso
        have h4 := List.all_eq_true.1 ht o (by have := Array.mem_of_getElem? ho; simpa using this)
        rw [hd] at h4
        simp at h4) (parAll_mk hlen fun j o p ho hp => ?_) (alAll_mk fun e he => ?_) (fun e he e' he' hne => hI.dist e he e' he' hne (halt _) (halt _))
      · rw [Nat.zero_add]
        cases hs : isSt As j with
        | true => exact .inl rfl
        | false => exact .inr (hI.done j p hp hs (halt j))
      · obtain ⟨b, h1, h2, h3⟩ := hI.mem e he (halt _)
        refine ⟨b, h1, h2, ?_⟩
        rcases h3 with h3 | h3
        · rw [halt] at h3; cases h3.1
        · exact h3.2
    intro fuel
    induction fuel with
    | zero =>
      intro listed fr' w' hI hc
      refine aw_done ?_ (fin listed fr' w' hI ?_)
      all_goals
        rw [List.eq_nil_iff_forall_not_mem]
        intro i hi
        obtain ⟨h1, o, ho, _⟩ := mem_ready.1 hi
        have hlt : i < listed.size := by rw [hI.size]; exact (Array.getElem?_eq_some_iff.1 ho).1
        have h2 : listed[i] = false := by simpa [hlt] using h1
        have : 0 < listed.toList.count false := List.count_pos_iff.2 (by rw [← h2]; simp)
        omega
    | succ fuel ih =>
      intro listed fr' w' hI hc
      by_cases hr : Region.ready .any ops listed = []
      · exact aw_done hr (fin listed fr' w' hI hr)
      · refine wpAnyJ_all (rs := Region.ready .any ops listed) rfl hr ?_
        intro i hi
        obtain ⟨h1, o, ho, hd⟩ := mem_ready.1 hi
        obtain ⟨hg, hds, hdn, hlt, hne⟩ := parOk2_at hok ho
        obtain ⟨p, hp, hs⟩ := parAll_get hstep (j := i) (o := o) (by simpa using ho)
        rw [Nat.zero_add] at hs
        have hisz : i < ops.size := (Array.getElem?_eq_some_iff.1 ho).1
        have hil : i < listed.size := by rw [hI.size]; exact hisz
        have hif : listed.getD i false = false := by simpa [hil] using h1
        have hcount : (listed.setIfInBounds i true).toList.count false ≤ fuel := by
          have h2 : listed[i] = false := by simpa [hil] using h1
          have hl2 : i < listed.toList.length := by simpa using hil
          have h5 : listed.toList[i] = false := by simpa using h2
          have hpos : 0 < listed.toList.count false := List.count_pos_iff.2 (by rw [← h5]; exact List.getElem_mem hl2)
          rw [Array.toList_setIfInBounds, List.count_set hl2, h5]
          have e1 : ((false == false) = true) := rfl
          have e2 : ¬ ((true == false) = true) := by decide
          rw [if_pos e1, if_neg e2]
          omega
        have hdeps : ∀ j, isDep o j = true → listed.getD j false = true ∧ j < i := fun j hdep => by
          simp only [isDep, List.any_eq_true, Bool.and_eq_true, Array.mem_toList_iff] at hdep
          obtain ⟨e, he, hb, hj⟩ := hdep
          obtain rfl : e.on = j := Nat.eq_of_beq_eq_true hj
          exact ⟨hd e he hb, hlt e he hb⟩
        have hdq : ∀ j q, isSt As j = false → Ps[j]? = some q → isDep o j = true → q (fr' (dstOf ops j)) w' := fun j q hjs hq hdep => by
          obtain ⟨h6, h7⟩ := hdeps j hdep
          have hjl : j < listed.size := by omega
          exact hI.done j q hq hjs (by simpa [hjl] using h6)
        have hset : ∀ j, listed.getD j true = true → (listed.setIfInBounds i true).getD j true = true := fun j hj => by
          by_cases hji : i = j
          · subst hji; simp [hil]
          · rw [getD_set_ne true hji]; exact hj
        have hsetf : ∀ j, listed.getD j false = true → (listed.setIfInBounds i true).getD j false = true := fun j hj => by
          by_cases hji : i = j
          · subst hji; simp [hil]
          · rw [getD_set_ne false hji]; exact hj
        have hshut : ∀ j o', ops[j]? = some o' → (listed.setIfInBounds i true).getD j true = true → ∀ i', isDep o' i' = true → (listed.setIfInBounds i true).getD i' false = true := fun j o' ho' hj i' hdep => by
          by_cases hji : i = j
          · subst hji
            rw [ho] at ho'
            injection ho' with ho'
            subst ho'
            exact hsetf _ (hdeps i' hdep).1
          · rw [getD_set_ne true hji] at hj
            exact hsetf _ (hI.shut j o' ho' hj i' hdep)
        have htf : ∀ j, j < ops.size → listed.getD j false = listed.getD j true := fun j hj => by
          have : j < listed.size := by rw [hI.size]; exact hj
          simp [this]
        have hfixed2 : ∀ (fr2 : Fr), (∀ t, o.dst ≠ some t → fr2 t = fr' t) → ∀ t, (∀ j o', ops[j]? = some o' → o'.dst = some t → (listed.setIfInBounds i true).getD j true = false) → fr2 t = fr t := by
          intro fr2 h2 t ht
          have hnt : o.dst ≠ some t := fun hh => by
            have h5 := ht i o ho hh
            simp [hil] at h5
          rw [h2 t hnt]
          refine hI.fixed t fun j o' ho' hd' => ?_
          have h5 := ht j o' ho' hd'
          by_cases hji : i = j
          · subst hji; simp [hil] at h5
          · rwa [getD_set_ne true hji] at h5
        -- what is not a store
        have plain : ∀ (v : Value) (w2 : World) (d : Nat), isSt As i = false → o.dst = some d → dstOf ops i = d → Ext w' w2 → p v w2 →
            (∀ e ∈ As, e.a = i → ∃ b, v = .pointer (some ⟨b, 0, none⟩) ∧ w.heap.size ≤ b ∧ w'.heap.size ≤ b ∧ w2.heap[b]? = some (.cells e.cs e.T)) →
            AW P f n R k ops (fun _ => True) [] fuel (listed.setIfInBounds i true) (upd fr' d v) w2 := by
          intro v w2 d his hdst hdo he hpv hnew
          have hupd : ∀ t, t ≠ d → upd fr' d v t = fr' t := fun t ht => by
            have : Nat.beq t d = false := by rw [← Bool.not_eq_true]; exact fun hb => ht (Nat.eq_of_beq_eq_true hb)
            simp only [upd, this, cond_false]
          have hupe : upd fr' d v d = v := by
            have : Nat.beq d d = true := by simp
            simp only [upd, this, cond_true]
          have hdj : ∀ j, j < ops.size → j ≠ i → isSt As j = false → dstOf ops j ≠ d := fun j hj hji hjs => by rw [← hdo]; exact hne his j hj hji hjs
          refine ih _ _ _ ⟨by simp [hI.size], hI.ext.trans (he.mono hI.ext.size), hfixed2 _ (fun t ht => hupd t fun hh => ht (by rw [hdst, hh])), hshut, fun j q hq hjs hj => ?_, fun e hee hea => ?_, fun e hee e' hee' hne' h3 h4 => ?_⟩ hcount
          · by_cases hji : j = i
            · subst hji
              rw [hp] at hq
              injection hq with hq
              subst hq
              rw [hdo, hupe]
              exact hpv
            · rw [getD_set_ne true (Ne.symm hji)] at hj
              have hjz : j < ops.size := by
                have := (List.getElem?_eq_some_iff.1 hq).1
                omega
              rw [hupd _ (hdj j hjz hji hjs)]
              exact (perAll2_get hper hq).1 _ _ _ he (hI.done j q hq hjs hj)
          · obtain ⟨ha, hxz, hxs, hxa, ⟨os, hos, hda, hdx⟩, _⟩ := parOk2_al hok hee
            have hesi : e.s ≠ i := fun hh => by rw [← hh, isSt_mem hee] at his; cases his
            have hsl : (listed.setIfInBounds i true).getD e.s true = listed.getD e.s true := getD_set_ne true (Ne.symm hesi)
            by_cases hai : e.a = i
            · obtain ⟨b, hb1, hb2, hb3, hb4⟩ := hnew e hee hai
              refine ⟨b, by rw [hai, hdo, hupe]; exact hb1, hb2, .inl ⟨?_, hb4⟩⟩
              rw [hsl]
              cases hls : listed.getD e.s true with
              | false => rfl
              | true =>
                have := hI.shut e.s os hos hls e.a hda
                rw [hai, hif] at this
                cases this
            · rw [getD_set_ne true (Ne.symm hai)] at hea
              obtain ⟨b, hb1, hb2, hb3⟩ := hI.mem e hee hea
              have has : isSt As e.a = false := by
                cases hh : isSt As e.a with
                | false => rfl
                | true =>
                  have hoa : ops[e.a]? = some ops[e.a] := Array.getElem?_eq_getElem ha
                  have := ((parOk2_at hok hoa).2.1 hh).2
                  rw [isAl_mem hee] at this
                  cases this
              refine ⟨b, by rw [hupd _ (hdj _ ha hai has)]; exact hb1, hb2, ?_⟩
              rcases hb3 with hb3 | hb3
              · exact .inl ⟨by rw [hsl]; exact hb3.1, he.blk hb3.2⟩
              · refine .inr ⟨by rw [hsl]; exact hb3.1, ?_⟩
                have hxi : e.xi ≠ i := fun hh => by
                  have := hI.shut e.s os hos hb3.1 e.xi hdx
                  rw [hh, hif] at this
                  cases this
                rw [hupd _ (hdj _ hxz hxi hxs)]
                exact he.blk hb3.2
          · have old : ∀ e ∈ As, e.a ≠ i → (listed.setIfInBounds i true).getD e.a true = true → ∃ b, upd fr' d v (dstOf ops e.a) = .pointer (some ⟨b, 0, none⟩) ∧ fr' (dstOf ops e.a) = .pointer (some ⟨b, 0, none⟩) ∧ b < w'.heap.size := by
              intro e hee hai hea
              obtain ⟨ha, _, _, _, _, _⟩ := parOk2_al hok hee
              rw [getD_set_ne true (Ne.symm hai)] at hea
              obtain ⟨b, hb1, hb2, hb3⟩ := hI.mem e hee hea
              have has : isSt As e.a = false := by
                cases hh : isSt As e.a with
                | false => rfl
                | true =>
                  have hoa : ops[e.a]? = some ops[e.a] := Array.getElem?_eq_getElem ha
                  have := ((parOk2_at hok hoa).2.1 hh).2
                  rw [isAl_mem hee] at this
                  cases this
              refine ⟨b, by rw [hupd _ (hdj _ ha hai has)]; exact hb1, hb1, ?_⟩
              rcases hb3 with hb3 | hb3
              · exact lt_of_blk hb3.2
              · exact lt_of_blk hb3.2
            by_cases hai : e.a = i
            · have hai' : e'.a ≠ i := fun hh => hne' (by rw [hai, hh])
              obtain ⟨b, hb1, hb2, hb3, hb4⟩ := hnew e hee hai
              obtain ⟨b', hb1', _, hb2'⟩ := old e' hee' hai' h4
              rw [hb1', hai, hdo, hupe, hb1]
              intro hh
              injection hh with hh
              injection hh with hh
              injection hh with hh
              omega
            · by_cases hai' : e'.a = i
              · obtain ⟨b, hb1, hb2, hb3, hb4⟩ := hnew e' hee' hai'
                obtain ⟨b', hb1', _, hb2'⟩ := old e hee hai h3
                rw [hb1', hai', hdo, hupe, hb1]
                intro hh
                injection hh with hh
                injection hh with hh
                injection hh with hh
                omega
              · obtain ⟨b, hb1, hb1o, _⟩ := old e hee hai h3
                obtain ⟨b', hb1', hb1o', _⟩ := old e' hee' hai' h4
                rw [getD_set_ne true (Ne.symm hai)] at h3
                rw [getD_set_ne true (Ne.symm hai')] at h4
                have := hI.dist e hee e' hee' hne' h3 h4
                rw [hb1, hb1', ← hb1o, ← hb1o']
                exact this
        have wrap : ∀ {Q : Value → World → Prop}, OE P n o.op o.type fr' w' Q → (∀ v w2, Q v w2 → AW P f n R k ops (fun _ => True) [] fuel (listed.setIfInBounds i true) (putO fr' o.dst v) w2) →
            wpOp P ops (NQ P f n R k) i (fun a' w' => (i ∈ ([] : List Nat) ∨ True) ∧ wpAnyJ P .any ops (NQ P f n R k) (fun _ => True) [] fuel (listed.setIfInBounds i true) a' w') (actOf n fr') w' := by
          intro Q hQ hk2
          obtain ⟨dst, op, ty, pos, af, g⟩ := o
          subst hg
          exact wpOp_oe i ho .none (K := fun fr2 w2 => (i ∈ ([] : List Nat) ∨ True) ∧ AW P f n R k ops (fun _ => True) [] fuel (listed.setIfInBounds i true) fr2 w2) (fun fr2 w2 hh => hh) (hQ.mono fun v w2 hv => ⟨.inr trivial, hk2 v w2 hv⟩)
        cases his : isSt As i with
        | true =>
          obtain ⟨e, hee, hei⟩ := List.any_eq_true.1 his
          obtain rfl : e.s = i := Nat.eq_of_beq_eq_true hei
          obtain ⟨ha, hxz, hxs, hxa, ⟨os, hos, hda, hdx⟩, hpair⟩ := parOk2_al hok hee
          rw [ho] at hos
          injection hos with hos
          subst hos
          have hal2 := (alAll_get hal e hee).2
          obtain ⟨o2, ho2, hst⟩ := hal2
          rw [ho] at ho2
          injection ho2 with ho2
          subst ho2
          have hla : listed.getD e.a true = true := by rw [← htf _ ha]; exact (hdeps _ hda).1
          obtain ⟨b, hb1, hb2, hb3⟩ := hI.mem e hee hla
          have hb4 : w'.heap[b]? = some (.cells e.cs e.T) := by
            rcases hb3 with hb3 | hb3
            · exact hb3.2
            · rw [h1] at hb3; cases hb3.1
          refine wrap (hst fr' w' b hI.ext (hfix hI _ hif) hdq hb1 hb4) fun v w2 ⟨hS, hB⟩ => ?_
          rw [(hds his).1]
          show AW P f n R k ops (fun _ => True) [] fuel (listed.setIfInBounds e.s true) fr' w2
          have hTe : e.T ∈ TS := by
            have := List.all_eq_true.1 hTS e hee
            simpa using this
          refine ih _ _ _ ⟨by simp [hI.size], below_st hI.ext hb2 hS, hfixed2 _ (fun t _ => rfl), hshut, fun j q hq hjs hj => ?_, fun e' hee' hea => ?_, fun e1 he1 e2 he2 hne' h3 h4 => ?_⟩ hcount
          · have hji : e.s ≠ j := fun hh => by rw [← hh, his] at hjs; cases hjs
            rw [getD_set_ne true hji] at hj
            exact (perAll2_get hper hq).2 _ _ _ b _ _ _ hS hb4 hTe (hI.done j q hq hjs hj)
          · have hea' : listed.getD e'.a true = true := by
              by_cases hh : e.s = e'.a
              · exfalso
                have := (hds his).2
                rw [hh, isAl_mem hee'] at this
                cases this
              · rwa [getD_set_ne true hh] at hea
            obtain ⟨b', hb1', hb2', hb3'⟩ := hI.mem e' hee' hea'
            rcases hpair e' hee' with ⟨q1, q2, q3, q4⟩ | ⟨q1, q2⟩
            · refine ⟨b, by rw [← q1]; exact hb1, hb2, .inr ⟨by rw [← q2]; simp [hil], by rw [← q3, ← q4]; exact hB⟩⟩
            · have hbb : b' ≠ b := fun hh => by
                have := hI.dist e hee e' hee' q1 hla hea'
                rw [hb1, hb1', hh] at this
                exact this rfl
              have hsl : (listed.setIfInBounds e.s true).getD e'.s true = listed.getD e'.s true := getD_set_ne true q2
              refine ⟨b', hb1', hb2', ?_⟩
              rcases hb3' with hb3' | hb3'
              · exact .inl ⟨by rw [hsl]; exact hb3'.1, hS.blk hb3'.2 hbb⟩
              · exact .inr ⟨by rw [hsl]; exact hb3'.1, hS.blk hb3'.2 hbb⟩
          · have q : ∀ e1 ∈ As, (listed.setIfInBounds e.s true).getD e1.a true = true → listed.getD e1.a true = true := fun e1 he1 h => by
              by_cases hh : e.s = e1.a
              · exfalso
                have := (hds his).2
                rw [hh, isAl_mem he1] at this
                cases this
              · rwa [getD_set_ne true hh] at h
            exact hI.dist e1 he1 e2 he2 hne' (q e1 he1 h3) (q e2 he2 h4)
        | false =>
          obtain ⟨d, hdst, hdo⟩ := hdn his
          rcases hs with (hs | hs) | hs
          · rw [his] at hs; cases hs
          · obtain ⟨e, hee, hei⟩ := List.any_eq_true.1 hs.1
            obtain rfl : e.a = i := Nat.eq_of_beq_eq_true hei
            obtain ⟨o2, ho2, hst⟩ := (alAll_get hal e hee).1
            rw [ho] at ho2
            injection ho2 with ho2
            subst ho2
            refine wrap (hst fr' w') fun v w2 ⟨b, hv, hN⟩ => ?_
            rw [hdst]
            show AW P f n R k ops (fun _ => True) [] fuel (listed.setIfInBounds e.a true) (upd fr' d v) w2
            refine plain v w2 d his hdst hdo hN.ext (hs.2 _ _) fun e' hee' hea' => ⟨b, hv, ?_, ?_, ?_⟩
            · rw [hN.eq]; exact hI.ext.size
            · rw [hN.eq]; exact Nat.le_refl _
            · rw [hnd e' hee' e hee hea']; exact hN.blk
          · refine wrap (hs.2 fr' w' hI.ext (hfix hI _ hif) hdq) fun v w2 ⟨he, hpv⟩ => ?_
            rw [hdst]
            show AW P f n R k ops (fun _ => True) [] fuel (listed.setIfInBounds i true) (upd fr' d v) w2
            refine plain v w2 d his hdst hdo he hpv fun e' hee' hea' => ?_
            have := isAl_mem hee'
            rw [hea', hs.1] at this
            cases this
  refine rk_any (fun _ => True) [] hm fun w1 hdr => ?_
  refine main ops.size _ fr w1 ⟨by simp, hdr.ext, fun t _ => rfl, fun j o ho hj => ?_, fun j p hp _ hj => ?_, fun e he hj => ?_, fun e he e' he' _ hj => ?_⟩ ?_
  · exfalso
    have hjs := (Array.getElem?_eq_some_iff.1 ho).1
    simp [hjs] at hj
  · exfalso
    have hjs : j < ops.size := by
      have := (List.getElem?_eq_some_iff.1 hp).1
      omega
    simp [hjs] at hj
  · exfalso
    have hjs := (parOk2_al hok he).1
    simp [hjs] at hj
  · exfalso
    have hjs := (parOk2_al hok he).1
    simp [hjs] at hj
  · have := List.count_le_length (a := false) (l := (Array.replicate ops.size false).toList)
    simp
end
end Go.Proofs.Ytmbpomcbdopgnaa.Fw
namespace Go.Proofs.Ytmbpomcbdopgnaa.Fw
def sm3 (x y z : Int) : Prop := nbits ((x.natAbs : Nat) : Int).toNat ≤ 80 ∧ nbits ((y.natAbs : Nat) : Int).toNat ≤ 80 ∧ nbits ((z.natAbs : Nat) : Int).toNat ≤ 80
instance (x y z : Int) : Decidable (sm3 x y z) := by unfold sm3; infer_instance
def pc (x y w x' y' w' : Int) : Int := if sgnI (x * w' - x' * w) ≠ 0 then sgnI (x * w' - x' * w) else sgnI (y * w' - y' * w)
def ori (x y w x' y' w' x'' y'' w'' : Int) : Int := sgnI (x * (y' * w'' - w' * y'') - y * (x' * w'' - w' * x'') + w * (x' * y'' - y' * x''))
theorem sgnI_zero {n : Int} : sgnI n = 0 ↔ n = 0 := by unfold sgnI; grind
theorem sgnI_lt {n : Int} : sgnI n < 0 ↔ n < 0 := by unfold sgnI; grind
theorem sgnI_gt {n : Int} : 0 < sgnI n ↔ 0 < n := by unfold sgnI; grind
def pOk (x y w : Int) : Prop := 0 < w ∧ sm3 x y w ∧ gI3 x y w = 1
instance (x y w : Int) : Decidable (pOk x y w) := by unfold pOk; infer_instance
def btw (x y w x' y' w' x'' y'' w'' : Int) : Prop :=
  (0 < pc x y w x' y' w' ∧ pc x' y' w' x'' y'' w'' ≤ 0 ∧ pc x'' y'' w'' x y w ≤ 0 ∧ ori x' y' w' x y w x'' y'' w'' = 0) ∨
  (¬ 0 < pc x y w x' y' w' ∧ pc x y w x'' y'' w'' ≤ 0 ∧ pc x'' y'' w'' x' y' w' ≤ 0 ∧ ori x y w x' y' w' x'' y'' w'' = 0)
instance (x y w x' y' w' x'' y'' w'' : Int) : Decidable (btw x y w x' y' w' x'' y'' w'') := by unfold btw; infer_instance
def sideV (ax ay bx b_y x y w : Int) : Int := sgnI ((bx - ax) * (y - ay * w) - (b_y - ay) * (x - ax * w))
theorem half_guess {U u Y : Int} (hY : 9223372036854775808 ≤ Y) (hYl : Y < 18446744073709551616) (hU0 : 0 ≤ U) (hU : U < Y) (hu0 : 0 ≤ u) (hu : u < 4294967296) :
    0 ≤ U / (Y / 4294967296) ∧ U / (Y / 4294967296) ≤ 4294967297 ∧ 0 ≤ U - U / (Y / 4294967296) * (Y / 4294967296) ∧ U - U / (Y / 4294967296) * (Y / 4294967296) < Y / 4294967296 ∧
    U * 4294967296 + u < (U / (Y / 4294967296) + 1) * Y := by
  have hv : 2147483648 ≤ Y / 4294967296 := by omega
  have hv2 : Y / 4294967296 < 4294967296 := by omega
  have hYe : Y = Y / 4294967296 * 4294967296 + Y % 4294967296 := by omega
  generalize hV : Y / 4294967296 = v at *
  have d := Int.mul_ediv_add_emod U v
  have d0 := Int.emod_nonneg U (show v ≠ 0 by omega)
  have d1 := Int.emod_lt_of_pos U (show 0 < v by omega)
  have q0 : 0 ≤ U / v := Int.ediv_nonneg hU0 (by omega)
  generalize U / v = q at *
  have hc : q * v = v * q := Int.mul_comm _ _
  refine ⟨q0, ?_, by omega, by omega, ?_⟩
  · rcases Int.lt_or_le 4294967297 q with h | h
    · exfalso
      have h1 : v * 4294967298 ≤ v * q := Int.mul_le_mul_of_nonneg_left (by omega) (by omega)
      omega
    · exact h
  · have h1 : U ≤ v * q + (v - 1) := by omega
    have h2 : (q + 1) * Y = (v * q + v) * 4294967296 + (q + 1) * (Y % 4294967296) := by
      conv => lhs; rw [hYe]
      grind
    have h3 : 0 ≤ (q + 1) * (Y % 4294967296) := Int.mul_nonneg (by omega) (by omega)
    rw [h2]; omega
theorem half_less {U u Y q r : Int} (hq : q * (Y / 4294967296) + r = U) (hgt : 4294967296 ≤ q ∨ r * 4294967296 + u < q * (Y % 4294967296)) (hU : U < Y) (hu : u < 4294967296) (hY : 0 < Y) : U * 4294967296 + u < (q - 1 + 1) * Y := by
  have e : q * Y = q * (Y / 4294967296) * 4294967296 + q * (Y % 4294967296) := by
    have hYe : Y = Y / 4294967296 * 4294967296 + Y % 4294967296 := by omega
    conv => lhs; rw [hYe]
    grind
  rw [show q - 1 + 1 = q by omega]
  rcases hgt with h | h
  · have h1 : 4294967296 * Y ≤ q * Y := Int.mul_le_mul_of_nonneg_right h (by omega)
    omega
  · rw [e]
    generalize q * (Y / 4294967296) = a at *
    generalize q * (Y % 4294967296) = b at *
    omega
theorem half_ok {U u Y q r : Int} (hq : q * (Y / 4294967296) + r = U) (hle : q * (Y % 4294967296) ≤ r * 4294967296 + u) : q * Y ≤ U * 4294967296 + u := by
  have e : q * Y = q * (Y / 4294967296) * 4294967296 + q * (Y % 4294967296) := by
    have hYe : Y = Y / 4294967296 * 4294967296 + Y % 4294967296 := by omega
    conv => lhs; rw [hYe]
    grind
  rw [e]
  generalize q * (Y / 4294967296) = a at *
  generalize q * (Y % 4294967296) = b at *
  omega
theorem half_ok2 {U u Y q r : Int} (hq : q * (Y / 4294967296) + r = U) (hr : 4294967296 ≤ r) (h0 : 0 ≤ q) (hql : q ≤ 4294967296) (hu : 0 ≤ u) : q * Y ≤ U * 4294967296 + u := by
  refine half_ok hq ?_
  have h1 : q * (Y % 4294967296) ≤ 4294967296 * 4294967295 := Int.mul_le_mul hql (by omega) (by omega) (by decide)
  omega
theorem half_lt {U u Y q : Int} (hle : q * Y ≤ U * 4294967296 + u) (hU : U < Y) (hu : u < 4294967296) (hY : 0 < Y) : q < 4294967296 := by
  rcases Int.lt_or_le q 4294967296 with h | h
  · exact h
  · exfalso
    have h1 : 4294967296 * Y ≤ q * Y := Int.mul_le_mul_of_nonneg_right h (by omega)
    omega
theorem two_halves {hi lo y p N U u1 u0 q1 q0 R : Int} (hp : 0 < p) (hy : 0 < y) (hN : (U * 4294967296 + u1) * 4294967296 + u0 = (hi * 18446744073709551616 + lo) * p) (h1 : q1 * (y * p) ≤ U * 4294967296 + u1) (h1' : U * 4294967296 + u1 < (q1 + 1) * (y * p))
    (h2 : q0 * (y * p) ≤ (U * 4294967296 + u1 - q1 * (y * p)) * 4294967296 + u0) (h2' : (U * 4294967296 + u1 - q1 * (y * p)) * 4294967296 + u0 < (q0 + 1) * (y * p)) (hR : R = (U * 4294967296 + u1 - q1 * (y * p)) * 4294967296 + u0 - q0 * (y * p)) :
    q1 * 4294967296 + q0 = (hi * 18446744073709551616 + lo) / y ∧ R / p = (hi * 18446744073709551616 + lo) % y := by
  have h := div_sc (x := hi * 18446744073709551616 + lo) (y := y) (q := q1 * 4294967296 + q0) (r := R) hp ?_ ?_ ?_
  · exact ⟨h.1, h.2.1⟩
  · rw [hR, show p * (hi * 18446744073709551616 + lo) = (hi * 18446744073709551616 + lo) * p from Int.mul_comm _ _, ← hN]; grind
  · omega
  · have : (q0 + 1) * (y * p) = q0 * (y * p) + p * y := by grind
    omega
theorem norm_word {y : Int} (h0 : 0 < y) (h1 : y < 18446744073709551616) : ∃ S : Nat, (S : Int) = 64 - (nbits y.toNat : Int) ∧ S ≤ 63 ∧ 9223372036854775808 ≤ y * 2 ^ S ∧ y * 2 ^ S < 18446744073709551616 := by
  obtain ⟨Y, rfl⟩ := Int.eq_ofNat_of_zero_le (Int.le_of_lt h0)
  have hY : Y ≠ 0 := by omega
  rw [Int.toNat_natCast]
  have h2 := nbits_pos hY
  have h3 : nbits Y ≤ 64 := nbits_le_iff.2 (by omega)
  refine ⟨64 - nbits Y, by omega, by omega, ?_, ?_⟩
  · have h4 := nbits_le hY
    have h5 : 2 ^ (nbits Y - 1) * 2 ^ (64 - nbits Y) ≤ Y * 2 ^ (64 - nbits Y) := Nat.mul_le_mul_right _ h4
    rw [← Nat.pow_add, show nbits Y - 1 + (64 - nbits Y) = 63 by omega] at h5
    have e : ((Y * 2 ^ (64 - nbits Y) : Nat) : Int) = (Y : Int) * 2 ^ (64 - nbits Y) := by simp
    have e2 : (2 : Nat) ^ 63 = 9223372036854775808 := by decide
    omega
  · have h4 := nbits_lt Y
    have h5 : Y * 2 ^ (64 - nbits Y) < 2 ^ nbits Y * 2 ^ (64 - nbits Y) := Nat.mul_lt_mul_of_pos_right h4 (Nat.pow_pos (by decide))
    rw [← Nat.pow_add, show nbits Y + (64 - nbits Y) = 64 by omega] at h5
    have e : ((Y * 2 ^ (64 - nbits Y) : Nat) : Int) = (Y : Int) * 2 ^ (64 - nbits Y) := by simp
    have e2 : (2 : Nat) ^ 64 = 18446744073709551616 := by decide
    omega
theorem shl_split {x : Int} {S : Nat} (hS : S ≤ 64) : x / 2 ^ (64 - S) * 18446744073709551616 + x * 2 ^ S % 18446744073709551616 = x * 2 ^ S := by
  have e : (18446744073709551616 : Int) = 2 ^ (64 - S) * 2 ^ S := by rw [← Int.pow_add, show 64 - S + S = 64 by omega]; decide
  have h1 : x * 2 ^ S / 18446744073709551616 = x / 2 ^ (64 - S) := by
    rw [e, Int.mul_ediv_mul_of_pos_left _ _ (two_pos S)]
  have h2 := Int.mul_ediv_add_emod (x * 2 ^ S) 18446744073709551616
  rw [h1] at h2
  omega
theorem shl_top {hi y lo : Int} {S : Nat} (hS : S ≤ 63) (h0 : 0 ≤ hi) (h : hi < y) (hl : y * 2 ^ S < 18446744073709551616) (hlo : 0 ≤ lo) (hlo2 : lo < 18446744073709551616) :
    0 ≤ lo / 2 ^ (64 - S) ∧ lo / 2 ^ (64 - S) < 2 ^ S ∧ 0 ≤ hi * 2 ^ S ∧ hi * 2 ^ S + 2 ^ S ≤ y * 2 ^ S := by
  refine ⟨Int.ediv_nonneg hlo (Int.le_of_lt (two_pos _)), ?_, Int.mul_nonneg h0 (Int.le_of_lt (two_pos _)), ?_⟩
  · refine Int.ediv_lt_of_lt_mul (two_pos _) ?_
    rw [← Int.pow_add, show S + (64 - S) = 64 by omega]
    exact hlo2
  · have : (hi + 1) * 2 ^ S ≤ y * 2 ^ S := Int.mul_le_mul_of_nonneg_right (by omega) (Int.le_of_lt (two_pos _))
    rw [Int.add_mul] at this
    omega
theorem ediv_rg {a b : Int} (h : 0 ≤ a) (hb : 0 < b) : 0 ≤ a / b ∧ a / b ≤ a ∧ a / b * b ≤ a ∧ 0 ≤ a / b * b := by
  have h0 : 0 ≤ a / b := Int.ediv_nonneg h (Int.le_of_lt hb)
  exact ⟨h0, Int.ediv_le_self b h, Int.ediv_mul_le a (Int.ne_of_gt hb), Int.mul_nonneg h0 (Int.le_of_lt hb)⟩
theorem and_mask {a b : Int} {n : Nat} (h0 : 0 ≤ a) (h1 : a < 18446744073709551616) (hb : b = 2 ^ n - 1 ∧ n ≤ 64) : bitV .u64 .and a b = a % 2 ^ n := by
  obtain ⟨x, rfl⟩ := Int.eq_ofNat_of_zero_le h0
  obtain ⟨rfl, hn⟩ := hb
  have e1 : (2 : Int) ^ n - 1 = ((2 ^ n - 1 : Nat) : Int) := by
    have : 0 < 2 ^ n := Nat.pow_pos (by decide)
    rw [Int.natCast_sub this]; simp
  have hx : x < 2 ^ 64 := by have : (2 : Nat) ^ 64 = 18446744073709551616 := by decide
                             omega
  have hm : 2 ^ n - 1 < 2 ^ 64 := by
    have : 2 ^ n ≤ 2 ^ 64 := Nat.pow_le_pow_right (by decide) hn
    have : 0 < 2 ^ n := Nat.pow_pos (by decide)
    omega
  have e2 : (x : Int) % 2 ^ n = ((x % 2 ^ n : Nat) : Int) := by simp
  have hlt : x % 2 ^ n < 2 ^ 64 := Nat.lt_of_le_of_lt (Nat.mod_le _ _) hx
  rw [e1, e2]
  simp only [bitV, BitVec.ofInt_natCast, BitVec.toNat_and, BitVec.toNat_ofNat]
  rw [Nat.mod_eq_of_lt (show x < 2 ^ IntKind.u64.bits from hx), Nat.mod_eq_of_lt (show 2 ^ n - 1 < 2 ^ IntKind.u64.bits from hm), Nat.and_two_pow_sub_one_eq_mod]
  exact wn_u64 (by omega) (by have : (2 : Nat) ^ 64 = 18446744073709551616 := by decide
                              omega)
theorem shl_w {k : IntKind} {a b : Int} {K : Nat} {M : Int} (hb : b = (K : Nat)) (hK : K ≤ k.bits) (hw : k.wrap (a * 2 ^ K) = M) : k.wrap (a * 2 ^ (min b.toNat k.bits)) = M := by
  subst hb
  rw [show min ((K : Nat) : Int).toNat k.bits = K by simp only [Int.toNat_natCast]; omega]
  exact hw
theorem shr_v {k : IntKind} {a b : Int} {K : Nat} (hb : b = (K : Nat)) (hK : K ≤ k.bits) : a.fdiv (2 ^ (min b.toNat k.bits)) = a / 2 ^ K := by
  subst hb
  rw [show min ((K : Nat) : Int).toNat k.bits = K by simp only [Int.toNat_natCast]; omega]
  exact Int.fdiv_eq_ediv_of_nonneg _ (Int.le_of_lt (two_pos K))
theorem shl_mod {x : Int} {S : Nat} (hS : S ≤ 64) : x * 2 ^ S % 18446744073709551616 % 2 ^ S = 0 := by
  have e : (18446744073709551616 : Int) = 2 ^ S * 2 ^ (64 - S) := by rw [← Int.pow_add, show S + (64 - S) = 64 by omega]; decide
  rw [e, Int.emod_emod_of_dvd _ (Int.dvd_mul_right _ _)]
  exact Int.mul_emod_left _ _
theorem shf_T {xs L : List Int} {i S : Nat} {x lo c : Int} (hS : S ≤ 63) (hi : i < xs.length) (hl : L.length = xs.length + 1) (hok : okW (2 ^ 64) L) (hv : valB (2 ^ 64) L = 2 ^ S * valB (2 ^ 64) (xs.take i)) (hz : ∀ q, i < q → L.getD q 0 = 0)
    (hb : L.getD i 0 < 2 ^ S) (hx : x = xs.getD i 0) (hx0 : 0 ≤ x) (hx1 : x < 18446744073709551616) (hlo : lo = x * 2 ^ S % 18446744073709551616) (hc : c = x / 2 ^ (64 - S)) :
    ((L.set i (L.getD i 0 + lo)).set (i + 1) c).length = xs.length + 1 ∧ okW (2 ^ 64) ((L.set i (L.getD i 0 + lo)).set (i + 1) c) ∧ valB (2 ^ 64) ((L.set i (L.getD i 0 + lo)).set (i + 1) c) = 2 ^ S * valB (2 ^ 64) (xs.take (i + 1)) ∧
    (∀ q, i + 1 < q → ((L.set i (L.getD i 0 + lo)).set (i + 1) c).getD q 0 = 0) ∧ ((L.set i (L.getD i 0 + lo)).set (i + 1) c).getD (i + 1) 0 < 2 ^ S := by
  have h1 := shl_split (x := x) (S := S) (by omega)
  have h2 := shl_mod (x := x) (S := S) (by omega)
  have g := hok.getD (by decide) i
  have hc0 : 0 ≤ c := by rw [hc]; exact Int.ediv_nonneg hx0 (Int.le_of_lt (two_pos _))
  have hc1 : c < 2 ^ S := by
    rw [hc]
    refine Int.ediv_lt_of_lt_mul (two_pos _) ?_
    rw [← Int.pow_add, show S + (64 - S) = 64 by omega]
    exact hx1
  have hp := two_pos S
  have hp2 : (2 : Int) ^ S ≤ 2 ^ 63 := pow_le_of (by decide) hS
  have e63 : (2 : Int) ^ 63 = 9223372036854775808 := by decide
  have e64 : (2 : Int) ^ 64 = 18446744073709551616 := by decide
  have hlo0 : 0 ≤ lo := by omega
  have hlo1 : lo + 2 ^ S ≤ 18446744073709551616 := by
    have e : (18446744073709551616 : Int) = 2 ^ S * 2 ^ (64 - S) := by rw [← Int.pow_add, show S + (64 - S) = 64 by omega]; decide
    obtain ⟨t, ht⟩ := Int.dvd_of_emod_eq_zero h2
    rw [hlo, ht]
    have h3 : 2 ^ S * t < 2 ^ S * 2 ^ (64 - S) := by rw [← e, ← ht]; omega
    have h4 : t < 2 ^ (64 - S) := Int.lt_of_mul_lt_mul_left h3 (Int.le_of_lt hp)
    have h5 : 2 ^ S * (t + 1) ≤ 2 ^ S * 2 ^ (64 - S) := Int.mul_le_mul_of_nonneg_left h4 (Int.le_of_lt hp)
    rw [e]
    rw [Int.mul_add, Int.mul_one] at h5
    exact h5
  refine ⟨by simp [hl], (hok.set (by omega) (by omega) _).set hc0 (by omega) _, ?_, fun q hq => ?_, ?_⟩
  · exact shf_step (by omega) hv hx (hz _ (by omega)) (by rw [hlo, hc, e64]; omega)
  · rw [getD_set_neQ _ _ _ _ (by omega), getD_set_neQ _ _ _ _ (by omega)]
    exact hz q (by omega)
  · rw [getD_set_eq _ _ _ (by simp; omega)]
    exact hc1
theorem shf_F {xs L : List Int} {i S : Nat} {x lo : Int} (hS : S = 0) (hi : i < xs.length) (hl : L.length = xs.length + 1) (hok : okW (2 ^ 64) L) (hv : valB (2 ^ 64) L = 2 ^ S * valB (2 ^ 64) (xs.take i)) (hz : ∀ q, i < q → L.getD q 0 = 0)
    (hb : L.getD i 0 < 2 ^ S) (hx : x = xs.getD i 0) (hx0 : 0 ≤ x) (hx1 : x < 18446744073709551616) (hlo : lo = x * 2 ^ S % 18446744073709551616) :
    (L.set i (L.getD i 0 + lo)).length = xs.length + 1 ∧ okW (2 ^ 64) (L.set i (L.getD i 0 + lo)) ∧ valB (2 ^ 64) (L.set i (L.getD i 0 + lo)) = 2 ^ S * valB (2 ^ 64) (xs.take (i + 1)) ∧
    (∀ q, i + 1 < q → (L.set i (L.getD i 0 + lo)).getD q 0 = 0) ∧ (L.set i (L.getD i 0 + lo)).getD (i + 1) 0 < 2 ^ S := by
  subst hS
  have e64 : (2 : Int) ^ 64 = 18446744073709551616 := by decide
  have e0 : (2 : Int) ^ 0 = 1 := by decide
  have g := hok.getD (by decide) i
  rw [e0, Int.mul_one, Int.emod_eq_of_lt hx0 hx1] at hlo
  rw [e0] at hb hv ⊢
  refine ⟨by simp [hl], hok.set (by omega) (by omega) _, ?_, fun q hq => ?_, ?_⟩
  · exact shf_step0 (by omega) hv hx (by omega)
  · rw [getD_set_neQ _ _ _ _ (by omega)]
    exact hz q (by omega)
  · rw [getD_set_neQ _ _ _ _ (by omega), hz _ (by omega)]
    decide
theorem one_step {y r x q r2 : Int} {xs L : List Int} {n : Nat} (h0 : 0 < n) (hx : n ≤ xs.length) (hL : n ≤ L.length) (h : valB (2 ^ 64) (xs.drop n) = y * valB (2 ^ 64) (L.drop n) + r) (hxe : x = xs.getD (n - 1) 0) (hq : q * y + r2 = r * 18446744073709551616 + x) :
    valB (2 ^ 64) (xs.drop (n - 1)) = y * valB (2 ^ 64) ((L.set (n - 1) q).drop (n - 1)) + r2 := by
  have e64 : (2 : Int) ^ 64 = 18446744073709551616 := by decide
  rw [val_drop xs (n - 1) (by omega), val_drop (L.set (n - 1) q) (n - 1) (by simp; omega), getD_set_eq _ _ _ (by omega), show n - 1 + 1 = n by omega, List.drop_set_of_lt (by omega), h, ← hxe]
  rw [e64]
  have : y * (q + 18446744073709551616 * valB 18446744073709551616 (List.drop n L)) = q * y + 18446744073709551616 * (y * valB 18446744073709551616 (List.drop n L)) := by grind
  rw [this]
  omega
theorem pos_of_mul {q v t : Int} (hq : 0 ≤ q) (hv : 0 ≤ v) (ht : 0 ≤ t) (h : t < q * v) : 1 ≤ q := by
  rcases Int.lt_or_le 0 q with h1 | h1
  · omega
  · have : q = 0 := by omega
    subst this
    omega
theorem shr_word {u h : Int} {S : Nat} (hS : S ≤ 63) (hu0 : 0 ≤ u) (hu1 : u < 18446744073709551616) (hh : 0 ≤ h) : (u + 18446744073709551616 * h) / 2 ^ S % 18446744073709551616 = u / 2 ^ S + h * 2 ^ (64 - S) % 18446744073709551616 ∧
    0 ≤ u / 2 ^ S ∧ u / 2 ^ S < 2 ^ (64 - S) := by
  have e : (18446744073709551616 : Int) = 2 ^ S * 2 ^ (64 - S) := by rw [← Int.pow_add, show S + (64 - S) = 64 by omega]; decide
  have hp := two_pos S
  have d0 : 0 ≤ u / 2 ^ S := Int.ediv_nonneg hu0 (Int.le_of_lt hp)
  have d1 : u / 2 ^ S < 2 ^ (64 - S) := Int.ediv_lt_of_lt_mul hp (by rw [← Int.pow_add, show 64 - S + S = 64 by omega]; exact hu1)
  refine ⟨?_, d0, d1⟩
  have e1 : (u + 18446744073709551616 * h) / 2 ^ S = u / 2 ^ S + h * 2 ^ (64 - S) := by
    rw [e, show u + 2 ^ S * 2 ^ (64 - S) * h = u + 2 ^ S * (h * 2 ^ (64 - S)) by grind, Int.add_mul_ediv_left _ _ (Int.ne_of_gt hp)]
  rw [e1]
  have h2 := shl_mod (x := h) (S := 64 - S) (by omega)
  have m0 := Int.emod_nonneg (h * 2 ^ (64 - S)) (show (18446744073709551616 : Int) ≠ 0 by decide)
  have m1 := Int.emod_lt_of_pos (h * 2 ^ (64 - S)) (show (0 : Int) < 18446744073709551616 by decide)
  have hlt : h * 2 ^ (64 - S) % 18446744073709551616 + 2 ^ (64 - S) ≤ 18446744073709551616 := by
    obtain ⟨t, ht⟩ := Int.dvd_of_emod_eq_zero h2
    rw [ht] at m1 ⊢
    have hp2 := two_pos (64 - S)
    have e' : (18446744073709551616 : Int) = 2 ^ (64 - S) * 2 ^ S := by rw [e]; exact Int.mul_comm _ _
    rw [e'] at m1 ⊢
    have h4 : t < 2 ^ S := Int.lt_of_mul_lt_mul_left m1 (Int.le_of_lt hp2)
    have h5 : 2 ^ (64 - S) * (t + 1) ≤ 2 ^ (64 - S) * 2 ^ S := Int.mul_le_mul_of_nonneg_left h4 (Int.le_of_lt hp2)
    rw [Int.mul_add, Int.mul_one] at h5
    exact h5
  rw [Int.add_emod, Int.emod_eq_of_lt d0 (by omega : u / 2 ^ S < 18446744073709551616)]
  exact Int.emod_eq_of_lt (by omega) (by omega)
theorem shr_pt {M U : List Int} {i S : Nat} {z : Int} (hi : i < U.length) (hl : M.length = U.length) (hz : z = (U.getD i 0 + 18446744073709551616 * U.getD (i + 1) 0) / 2 ^ S % 18446744073709551616)
    (h : ∀ k, k < U.length → M.getD k 0 = if k < i then (U.getD k 0 + 18446744073709551616 * U.getD (k + 1) 0) / 2 ^ S % 18446744073709551616 else U.getD k 0) :
    ∀ k, k < U.length → (M.set i z).getD k 0 = if k < i + 1 then (U.getD k 0 + 18446744073709551616 * U.getD (k + 1) 0) / 2 ^ S % 18446744073709551616 else U.getD k 0 := by
  intro k hk
  by_cases hki : k = i
  · subst hki
    rw [getD_set_eq _ _ _ (by omega), if_pos (by omega), hz]
  · rw [getD_set_neQ _ _ _ _ (by omega), h k hk]
    by_cases h1 : k < i
    · rw [if_pos h1, if_pos (by omega)]
    · rw [if_neg h1, if_neg (by omega)]
theorem shr_end {M U : List Int} {t S : Nat} (hS : S ≤ 63) (ho : okW (2 ^ 64) U) (ht : t ≤ U.length) (hl : M.length = U.length) (h0 : ∀ k, t ≤ k → U.getD k 0 = 0)
    (h : ∀ k, k < U.length → M.getD k 0 = if k < t then (U.getD k 0 + 18446744073709551616 * U.getD (k + 1) 0) / 2 ^ S % 18446744073709551616 else U.getD k 0) :
    valB (2 ^ 64) (M.take t) = valB (2 ^ 64) U / 2 ^ S ∧ okW (2 ^ 64) (M.take t) := by
  have e64 : (2 : Int) ^ 64 = 18446744073709551616 := by decide
  have e : (2 : Int) ^ 64 = 2 ^ S * 2 ^ (64 - S) := by rw [← Int.pow_add, show S + (64 - S) = 64 by omega]
  have heq : M.take t = shrL (2 ^ 64) (2 ^ S) (U.take t) := by
    apply List.ext_getElem
    · rw [shrL_len]; simp; omega
    · intro k h1 h2
      have hk : k < t := by simp at h1; omega
      have e1 : (M.take t)[k] = (M.take t).getD k 0 := by rw [List.getD_eq_getElem?_getD, List.getElem?_eq_getElem h1]; rfl
      have e2 : (shrL (2 ^ 64) (2 ^ S) (U.take t))[k] = (shrL (2 ^ 64) (2 ^ S) (U.take t)).getD k 0 := by rw [List.getD_eq_getElem?_getD, List.getElem?_eq_getElem h2]; rfl
      rw [e1, e2, getD_take _ _ _ hk, h k (by omega), if_pos hk, shrL_getD _ _ _ _ (by simp; omega), getD_take _ _ _ hk, e64]
      congr 4
      by_cases hk2 : k + 1 < t
      · rw [getD_take _ _ _ hk2]
      · rw [h0 _ (by omega), getD_ge _ _ (by simp; omega)]
  refine ⟨?_, ?_⟩
  · rw [heq]
    have h3 := shrL_val (p := 2 ^ S) (m := 2 ^ (64 - S)) (two_pos _) (two_pos _) (xs := U.take t) (by rw [← e]; exact ho.take _)
    rw [← e] at h3
    rw [h3, val_take_zero h0]
  · intro x hx
    obtain ⟨k, hk, rfl⟩ := List.getElem_of_mem hx
    have hkt : k < t := by simp at hk; omega
    have e1 : (M.take t)[k] = (M.take t).getD k 0 := by rw [List.getD_eq_getElem?_getD, List.getElem?_eq_getElem hk]; rfl
    rw [e1, getD_take _ _ _ hkt, h k (by omega), if_pos hkt, e64]
    exact ⟨Int.emod_nonneg _ (by decide), Int.emod_lt_of_pos _ (by decide)⟩
theorem trim_zero {xs : List Int} : ∀ k, (trimL xs).length ≤ k → k < xs.length → xs.getD k 0 = 0 := by
  have gen : ∀ (n : Nat) (xs : List Int), xs.length = n → ∀ k, (trimL xs).length ≤ k → k < xs.length → xs.getD k 0 = 0 := by
    intro n
    induction n with
    | zero => intro xs hl k _ hk; omega
    | succ n ih =>
      intro xs hl k h1 h2
      have hs := list_snoc xs (by omega)
      generalize hys : xs.take (xs.length - 1) = ys at hs
      generalize hy : xs.getD (xs.length - 1) 0 = y at hs
      have hyl : ys.length = n := by rw [← hys]; simp; omega
      subst hs
      by_cases hy0 : y = 0
      · subst hy0
        rw [trimL_snoc_zero] at h1
        by_cases hk : k < ys.length
        · have := ih ys hyl k h1 hk
          rw [List.getD_eq_getElem?_getD, List.getElem?_append_left hk, ← List.getD_eq_getElem?_getD]
          exact this
        · have : k = ys.length := by simp at h2; omega
          subst this
          simp
      · rw [trimL_snoc _ hy0] at h1
        omega
  exact gen _ xs rfl
theorem val_len {xs : List Int} (ho : okW (2 ^ 64) xs) {m : Nat} (hl : xs.length = m) : valB (2 ^ 64) xs < (2 ^ 64) ^ m := by
  have := valB_lt (B := 2 ^ 64) (by decide) ho
  rwa [hl] at this
theorem norm_lt {x top : Int} {xs : List Int} {S k : Nat} (hS63 : S ≤ 63) (ho : okW (2 ^ 64) xs) (hl : xs.length = k + 1) (ht : top = xs.getD k 0) (hS : top * 2 ^ S < 18446744073709551616) (hx : x = valB (2 ^ 64) xs) : 2 ^ S * x < (2 ^ 64) ^ (k + 1) := by
  have h1 := (val_lo (B := 2 ^ 64) (by decide) ho k (by omega)).2
  rw [val_drop xs k (by omega), List.drop_eq_nil_of_le (by omega : xs.length ≤ k + 1)] at h1
  simp only [valB, Int.mul_zero, Int.add_zero] at h1
  rw [← ht, ← hx] at h1
  have hp := two_pos S
  have e64 : (2 : Int) ^ 64 = 18446744073709551616 := by decide
  have hdiv : (2 : Int) ^ S * (top + 1) ≤ 18446744073709551616 := by
    have e1 : top * 2 ^ S = 2 ^ S * top := Int.mul_comm _ _
    have h0 : 0 ≤ top := by rw [ht]; exact (ho.getD (by decide) k).1
    have e : (18446744073709551616 : Int) = 2 ^ S * 2 ^ (64 - S) := by rw [← Int.pow_add, show S + (64 - S) = 64 by omega]; decide
    rw [e1, e] at hS
    have h4 : top < 2 ^ (64 - S) := Int.lt_of_mul_lt_mul_left hS (Int.le_of_lt hp)
    rw [e]
    exact Int.mul_le_mul_of_nonneg_left h4 (Int.le_of_lt hp)
  have h2 : 2 ^ S * x < 2 ^ S * ((2 ^ 64) ^ k * (top + 1)) := Int.mul_lt_mul_of_pos_left h1 hp
  have h3 : (2 : Int) ^ S * ((2 ^ 64) ^ k * (top + 1)) = (2 ^ 64) ^ k * (2 ^ S * (top + 1)) := by grind
  have h4 : ((2 : Int) ^ 64) ^ k * (2 ^ S * (top + 1)) ≤ (2 ^ 64) ^ k * 18446744073709551616 := Int.mul_le_mul_of_nonneg_left hdiv (Int.le_of_lt (pw_pos (by decide) k))
  rw [Int.pow_succ ((2 : Int) ^ 64) k, e64]
  rw [e64] at h2 h3 h4
  omega
theorem p64 : (2 : Int) ^ 64 = 18446744073709551616 := by decide
theorem guess64 {U V : List Int} {n J : Nat} {q r : Int} (hU : okW (2 ^ 64) U) (hV : okW (2 ^ 64) V) (hVz : ∀ k, n ≤ k → V.getD k 0 = 0) (hn : 2 ≤ n) (hVl : n ≤ V.length) (hJ : 1 ≤ J) (hu : J - 1 + n < U.length)
    (hlt : valB (2 ^ 64) U < valB (2 ^ 64) V * (2 ^ 64) ^ J) (hq : q * V.getD (n - 1) 0 + r = U.getD (J - 1 + n) 0 * 18446744073709551616 + U.getD (J - 1 + n - 1) 0) (hr : r < V.getD (n - 1) 0) (hq0 : 0 ≤ q) :
    valB (2 ^ 64) U < (q + 1) * valB (2 ^ 64) V * (2 ^ 64) ^ (J - 1) := by
  obtain ⟨k, rfl⟩ : ∃ k, n = k + 2 := ⟨n - 2, by omega⟩
  have ht := val_take_zero (B := 2 ^ 64) hVz
  rw [← ht] at hlt ⊢
  refine guess (k := k) (by decide) hU (hV.take _) (by simp; omega) (r := r) hu (by rw [show J - 1 + 1 = J by omega]; exact hlt) ?_ ?_ hq0
  · rw [getD_take _ _ _ (by omega), p64]
    have e : J - 1 + (k + 2) - 1 = J - 1 + (k + 1) := by omega
    rw [e] at hq
    exact hq
  · rw [getD_take _ _ _ (by omega)]; exact hr
theorem guess_less64 {U V : List Int} {n J : Nat} {q r : Int} (hU : okW (2 ^ 64) U) (hV : okW (2 ^ 64) V) (hVz : ∀ k, n ≤ k → V.getD k 0 = 0) (hn : 2 ≤ n) (hVl : n ≤ V.length) (hJ : 1 ≤ J) (hu : J - 1 + n < U.length)
    (hlt : valB (2 ^ 64) U < valB (2 ^ 64) V * (2 ^ 64) ^ J) (hq : q * V.getD (n - 1) 0 + r = U.getD (J - 1 + n) 0 * 18446744073709551616 + U.getD (J - 1 + n - 1) 0) (hq0 : 0 ≤ q)
    (hgt : r * 18446744073709551616 + U.getD (J - 1 + n - 2) 0 < q * V.getD (n - 2) 0) :
    valB (2 ^ 64) U < (q - 1 + 1) * valB (2 ^ 64) V * (2 ^ 64) ^ (J - 1) := by
  obtain ⟨k, rfl⟩ : ∃ k, n = k + 2 := ⟨n - 2, by omega⟩
  have ht := val_take_zero (B := 2 ^ 64) hVz
  rw [← ht] at hlt ⊢
  refine guess_less (k := k) (by decide) hU (hV.take _) (by simp; omega) (r := r) hu (by rw [show J - 1 + 1 = J by omega]; exact hlt) ?_ hq0 ?_
  · rw [getD_take _ _ _ (by omega), p64]
    have e : J - 1 + (k + 2) - 1 = J - 1 + (k + 1) := by omega
    rw [e] at hq
    exact hq
  · rw [getD_take _ _ _ (by omega), p64]
    have e : J - 1 + (k + 2) - 2 = J - 1 + k := by omega
    rw [e] at hgt
    exact hgt
theorem guess_top64 {X W : Int} {J : Nat} (hJ : 1 ≤ J) (h : X < W * (2 ^ 64) ^ J) : X < (18446744073709551615 + 1) * W * (2 ^ 64) ^ (J - 1) := by
  obtain ⟨j, rfl⟩ : ∃ j, J = j + 1 := ⟨J - 1, by omega⟩
  have := guess_top (B := 2 ^ 64) h
  rw [show j + 1 - 1 = j by omega]
  exact this
theorem start_lt {x y : Int} {m n : Nat} (hy : (2 ^ 64) ^ (n - 1) ≤ y) (hx : x < (2 ^ 64) ^ m) (hn : 1 ≤ n) (h : n ≤ m) : x < y * (2 ^ 64) ^ (m - n + 1) := by
  have h1 : ((2 : Int) ^ 64) ^ (n - 1) * (2 ^ 64) ^ (m - n + 1) ≤ y * (2 ^ 64) ^ (m - n + 1) := Int.mul_le_mul_of_nonneg_right hy (Int.le_of_lt (pw_pos (by decide) _))
  rw [← Int.pow_add, show n - 1 + (m - n + 1) = m by omega] at h1
  omega
theorem top_lt {X V : Int} {n J m : Nat} (h : X < V * (2 ^ 64) ^ J) (hV : V < (2 ^ 64) ^ n) (hm : m = n + J) : X < (2 ^ 64) ^ m := by
  have h1 : V * (2 ^ 64) ^ J < (2 ^ 64) ^ n * (2 ^ 64) ^ J := Int.mul_lt_mul_of_pos_right hV (pw_pos (by decide) J)
  rw [← Int.pow_add, ← hm] at h1
  omega
theorem modsum (s : Int) : s % 18446744073709551616 + 18446744073709551616 * (s / 18446744073709551616) = s := Int.emod_add_mul_ediv s _
theorem bit_room {q : Int} {k : Nat} (h0 : 0 ≤ q) (h1 : q < 4294967296) (hz : q % 2 ^ (k + 1) = 0) (hk : k ≤ 31) : q + 2 ^ k < 4294967296 := by
  have e : (4294967296 : Int) = 2 ^ (k + 1) * 2 ^ (31 - k) := by rw [← Int.pow_add, show k + 1 + (31 - k) = 32 by omega]; decide
  obtain ⟨t, ht⟩ := Int.dvd_of_emod_eq_zero hz
  have hp := two_pos (k + 1)
  have hp2 := two_pos k
  rw [ht, e] at h1
  have h4 : t < 2 ^ (31 - k) := Int.lt_of_mul_lt_mul_left h1 (Int.le_of_lt hp)
  have h5 : 2 ^ (k + 1) * (t + 1) ≤ 2 ^ (k + 1) * 2 ^ (31 - k) := Int.mul_le_mul_of_nonneg_left h4 (Int.le_of_lt hp)
  rw [Int.mul_add, Int.mul_one, ← e, ← ht] at h5
  have e3 : (2 : Int) ^ (k + 1) = 2 ^ k * 2 := Int.pow_succ ..
  omega
theorem hi_zero {u : Int} {S : Nat} (h : S = 0) : 0 = u * 2 ^ (64 - S) % 18446744073709551616 := by
  subst h
  rw [show (2 : Int) ^ (64 - 0) = 18446744073709551616 by decide, Int.mul_emod_left]
theorem div_sz {x y : Int} {s : Nat} (h0 : 0 ≤ x) (hy : 0 < y) (h : x < 2 ^ s) : x / y < 2 ^ s := by
  have := Int.ediv_le_self y h0
  omega
theorem mod_sz {x y : Int} {s : Nat} (hy : 0 < y) (h : y < 2 ^ s) : x % y < 2 ^ s := by
  have := Int.emod_lt_of_pos x hy
  omega
end Go.Proofs.Ytmbpomcbdopgnaa.Fw
namespace Go.Proofs.Ytmbpomcbdopgnaa.Fw
open Go Go.RowKit
def bOf (l : List Int) : ByteArray := ⟨(l.map fun x => UInt8.ofNat x.toNat).toArray⟩
theorem nb_toNat (x : Int) : nbits ((x.natAbs : Nat) : Int).toNat = nbits x.natAbs := by rw [Int.toNat_natCast]
theorem sm3_iff {x y z : Int} : sm3 x y z ↔ nbits x.natAbs ≤ 80 ∧ nbits y.natAbs ≤ 80 ∧ nbits z.natAbs ≤ 80 := by unfold sm3; rw [nb_toNat, nb_toNat, nb_toNat]
def pFit (x y u : Int) : Prop := u ≠ 0 ∧ sm3 (pPt x y u x) (pPt x y u y) (pPt x y u u)
instance (x y u : Int) : Decidable (pFit x y u) := by unfold pFit; infer_instance
theorem mx3 {a b c : Nat} : mx (mx (a : Int) (b : Int)) (c : Int) ≤ 80 ↔ a ≤ 80 ∧ b ≤ 80 ∧ c ≤ 80 := by unfold mx; grind
section
variable {P : Program} {n : Nat} {fr : Fr} {w : World} {ty : TypeId}
theorem dv_max3 {x y z : Operand} {k k' k'' : IntKind} {a b c : Int} {tys : Array TypeId} (hx : EV n fr x (.int k a)) (hy : EV n fr y (.int k' b)) (hz : EV n fr z (.int k'' c)) : DV P n (.call { callee := .builtin .max, args := #[x, y, z], argTypes := tys }) ty fr w (.int k (mx (mx a b) c)) := fun _ _ _ _ => by
  unfold EV at hx hy hz
  simp [execOp, resolve, invoke, builtin, hx, hy, hz, Builtin.max_, Builtin.max2, mx]
end
def st2Ok (ops : Array Oper) (s s2 : Nat) : Bool :=
  Nat.blt s ops.size && Nat.blt s2 ops.size && !Nat.beq s s2 && ((ops[s2]?).map (isDep · s)).getD false && (List.range ops.size).all fun i => match ops[i]? with
    | some o => o.guard.isNone && (if i = s ∨ i = s2 then o.dst.isNone else o.dst.isSome) && o.after.toList.all (fun e => !Region.binds .any e || Nat.blt e.on i) && (List.range ops.size).all (fun j => Nat.beq i j || Nat.beq i s || Nat.beq j s || Nat.beq i s2 || Nat.beq j s2 || !Nat.beq (dstOf ops i) (dstOf ops j))
    | none => false
section
variable {P : Program} {f n : Nat} {R : Ending → World → Prop} {k : List Item} {fr : Fr} {w : World} {ops : Array Oper}
structure St2Inv (ops : Array Oper) (s s2 : Nat) (Vs : List Value) (K1 K : World → Prop) (fr : Fr) (w1 : World) (listed : Array Bool) (fr' : Fr) (w' : World) : Prop where
  size : listed.size = ops.size
  fixed : ∀ t, (∀ j o, ops[j]? = some o → o.dst = some t → listed.getD j true = false) → fr' t = fr t
  shut : ∀ j o, ops[j]? = some o → listed.getD j true = true → ∀ i, isDep o i = true → listed.getD i false = true
  done : ∀ j v, Vs[j]? = some v → j ≠ s → j ≠ s2 → listed.getD j true = true → fr' (dstOf ops j) = v
  before : listed.getD s true = false → w' = w1
  mid : listed.getD s true = true → listed.getD s2 true = false → K1 w'
  after : listed.getD s2 true = true → K w'
theorem st2Ok_at {s s2 : Nat} (h : st2Ok ops s s2 = true) {i : Nat} {o : Oper} (ho : ops[i]? = some o) :
    (s < ops.size ∧ s2 < ops.size ∧ s ≠ s2 ∧ ((ops[s2]?).map (isDep · s)).getD false = true) ∧ o.guard = none ∧ (i = s ∨ i = s2 → o.dst = none) ∧ (¬ (i = s ∨ i = s2) → ∃ d, o.dst = some d ∧ dstOf ops i = d) ∧ (∀ e ∈ o.after, Region.binds .any e = true → e.on < i) ∧ (¬ (i = s ∨ i = s2) → ∀ j, j < ops.size → j ≠ i → ¬ (j = s ∨ j = s2) → dstOf ops j ≠ dstOf ops i) := by
  have hi := (Array.getElem?_eq_some_iff.1 ho).1
  simp only [st2Ok, Bool.and_eq_true] at h
  obtain ⟨⟨⟨⟨hs, hs2⟩, hss⟩, hdd⟩, h⟩ := h
  have h1 := List.all_eq_true.1 h i (by simpa using hi)
  simp only [ho, Bool.and_eq_true, Option.isNone_iff_eq_none, List.all_eq_true, Bool.or_eq_true, Bool.not_eq_true', List.mem_range, Array.mem_toList_iff] at h1
  obtain ⟨⟨⟨h2, h3⟩, h4⟩, h5⟩ := h1
  refine ⟨⟨by simpa using hs, by simpa using hs2, by intro he; subst he; simp at hss, hdd⟩, h2, fun he => ?_, fun he => ?_, fun e he hb => ?_, fun his j hj hne hjs heq => ?_⟩
  · rw [if_pos he] at h3; simpa using h3
  · rw [if_neg he, Option.isSome_iff_exists] at h3
    obtain ⟨d, h3⟩ := h3
    exact ⟨d, h3, by simp [dstOf, ho, h3]⟩
  · rcases h4 e he with h | h
    · rw [hb] at h; cases h
    · simpa using h
  · rcases h5 j hj with ((((h | h) | h) | h) | h) | h
    · exact hne (Nat.eq_of_beq_eq_true h).symm
    · exact his (.inl (Nat.eq_of_beq_eq_true h))
    · exact hjs (.inl (Nat.eq_of_beq_eq_true h))
    · exact his (.inr (Nat.eq_of_beq_eq_true h))
    · exact hjs (.inr (Nat.eq_of_beq_eq_true h))
    · rw [heq] at h
      simp at h
theorem rk_st2 {id : Nat} (s s2 : Nat) (Vs : List Value) (K1 K : World → Prop) (hm : P.follows .mixedOrders = true) (hok : st2Ok ops s s2 = true)
    (hstep : ∀ w1, Drew w w1 → stAll (fun i o v => ∀ fr' w', (i = s ∨ ((ops[s]?).map (isDep · i)).getD false = true → w' = w1) → (i = s2 → K1 w') → (∀ t, notYet ops i t = true → fr' t = fr t) → (∀ j q, ¬ (j = s ∨ j = s2) → Vs[j]? = some q → isDep o j = true → fr' (dstOf ops j) = q) →
      OE P n o.op o.type fr' w' fun u w'' => if i = s then K1 w'' else if i = s2 then K w'' else u = v ∧ w'' = w') 0 ops.toList Vs)
    (hk : ∀ fr' w', K w' → (∀ t, notDst ops t = true → fr' t = fr t) → stAll (fun i o v => (i = s ∨ i = s2) ∨ fr' (dstOf ops i) = v) 0 ops.toList Vs → RunK P f n R k fr' w') :
    RunK P f n R (.code (.region id ops true) :: k) fr w := by
  refine rk_any (fun _ => True) [] hm fun w1 hdr => ?_
  have hst := hstep w1 hdr
  have hlen := stAll_len _ _ _ _ hst
  have hfix : ∀ {listed : Array Bool} {fr' : Fr} {w' : World}, St2Inv ops s s2 Vs K1 K fr w1 listed fr' w' → ∀ i, listed.getD i false = false → ∀ t, notYet ops i t = true → fr' t = fr t := by
    intro listed fr' w' hI i hl t ht
    refine hI.fixed t fun j o ho hd => ?_
    have h1 := List.all_eq_true.1 ht o (by have := Array.mem_of_getElem? ho; simpa using this)
    rw [hd] at h1
    simp only [Bool.or_eq_true, Bool.not_eq_true'] at h1
    rcases h1 with h1 | h1
    · simp at h1
    · cases hj : listed.getD j true with
      | false => rfl
      | true => rw [hI.shut j o ho hj i h1] at hl; cases hl
  have hlen' : ops.size = Vs.length := by simpa using hlen
  have main : ∀ (fuel : Nat) (listed : Array Bool) (fr' : Fr) (w' : World), St2Inv ops s s2 Vs K1 K fr w1 listed fr' w' → (listed.toList.count false ≤ fuel) → AW P f n R k ops (fun _ => True) [] fuel listed fr' w' := by
    have fin : ∀ (listed : Array Bool) (fr' : Fr) (w' : World), St2Inv ops s s2 Vs K1 K fr w1 listed fr' w' → Region.ready .any ops listed = [] → RunK P f n R k fr' w' := by
      intro listed fr' w' hI hr
      have hall : ∀ i, i < ops.size → listed.getD i true = true := by
        intro i
        induction i using Nat.strongRecOn with
        | _ i ih =>
          intro hi
          cases hl : listed.getD i true with
          | true => rfl
          | false =>
            exfalso
            have ho : ops[i]? = some ops[i] := Array.getElem?_eq_getElem hi
            have : i ∈ Region.ready .any ops listed := mem_ready.2 ⟨hl, _, ho, fun e he hb => by
              have h1 := (st2Ok_at hok ho).2.2.2.2.1 e he hb
              have h2 := ih e.on h1 (by omega)
              have h3 : e.on < listed.size := by rw [hI.size]; omega
              simpa [h3] using h2⟩
            rw [hr] at this
            cases this
      have hss : listed.getD s2 true = true := by
        by_cases h : s2 < ops.size
        · exact hall s2 h
        · have : ¬ s2 < listed.size := by rw [hI.size]; exact h
          simp [this]
      refine hk fr' w' (hI.after hss) (fun t ht => hI.fixed t fun j o ho hd => by
        exfalso
        have h4 := List.all_eq_true.1 ht o (by have := Array.mem_of_getElem? ho; simpa using this)
        rw [hd] at h4
        simp at h4) (stAll_mk hlen fun j o v ho hp => ?_)
      have hj : j < ops.size := by have := (List.getElem?_eq_some_iff.1 ho).1; simpa using this
      rw [Nat.zero_add]
      by_cases hjs : j = s ∨ j = s2
      · exact .inl hjs
      · exact .inr (hI.done j v hp (fun h => hjs (.inl h)) (fun h => hjs (.inr h)) (hall j hj))
    intro fuel
    induction fuel with
    | zero =>
      intro listed fr' w' hI hc
      refine aw_done ?_ (fin listed fr' w' hI ?_)
      all_goals
        rw [List.eq_nil_iff_forall_not_mem]
        intro i hi
        obtain ⟨h1, o, ho, _⟩ := mem_ready.1 hi
        have hlt : i < listed.size := by rw [hI.size]; exact (Array.getElem?_eq_some_iff.1 ho).1
        have h2 : listed[i] = false := by simpa [hlt] using h1
        have : 0 < listed.toList.count false := List.count_pos_iff.2 (by rw [← h2]; simp)
        omega
    | succ fuel ih =>
      intro listed fr' w' hI hc
      by_cases hr : Region.ready .any ops listed = []
      · exact aw_done hr (fin listed fr' w' hI hr)
      · refine wpAnyJ_all (rs := Region.ready .any ops listed) rfl hr ?_
        intro i hi
        obtain ⟨h1, o, ho, hd⟩ := mem_ready.1 hi
        obtain ⟨⟨hsz, hsz2, hss, hdd⟩, hg, hds, hdn, hlt, hne⟩ := st2Ok_at hok ho
        obtain ⟨v, hp, hs⟩ := stAll_get hst (j := i) (o := o) (by simpa using ho)
        rw [Nat.zero_add] at hs
        have hil : i < listed.size := by rw [hI.size]; exact (Array.getElem?_eq_some_iff.1 ho).1
        have hslt : s < listed.size := by rw [hI.size]; exact hsz
        have hslt2 : s2 < listed.size := by rw [hI.size]; exact hsz2
        have hcount : ∀ b : Bool, (listed.setIfInBounds i true).toList.count false ≤ fuel := by
          intro _
          have h2 : listed[i] = false := by simpa [hil] using h1
          have hl2 : i < listed.toList.length := by simpa using hil
          have h5 : listed.toList[i] = false := by simpa using h2
          have hpos : 0 < listed.toList.count false := List.count_pos_iff.2 (by rw [← h5]; exact List.getElem_mem hl2)
          rw [Array.toList_setIfInBounds, List.count_set hl2, h5]
          have e1 : ((false == false) = true) := rfl
          have e2 : ¬ ((true == false) = true) := by decide
          rw [if_pos e1, if_neg e2]
          omega
        have hdeps : ∀ j, isDep o j = true → listed.getD j false = true ∧ j < i := fun j hdep => by
          simp only [isDep, List.any_eq_true, Bool.and_eq_true, Array.mem_toList_iff] at hdep
          obtain ⟨e, he, hb, hj⟩ := hdep
          obtain rfl : e.on = j := Nat.eq_of_beq_eq_true hj
          exact ⟨hd e he hb, hlt e he hb⟩
        have hs' := hs fr' w' (fun hor => by
          refine hI.before ?_
          rcases hor with rfl | hor
          · exact h1
          · cases hls : listed.getD s true with
            | false => rfl
            | true =>
              exfalso
              have ho2 : ops[s]? = some ops[s] := Array.getElem?_eq_getElem hsz
              rw [ho2] at hor
              have h6 := hI.shut s _ ho2 hls i (by simpa using hor)
              simp [hil] at h6 h1
              rw [h6] at h1
              cases h1) (fun h => by
          subst h
          refine hI.mid ?_ (by simpa [hil] using h1)
          rw [ho] at hdd
          have h7 := (hdeps s (by simpa using hdd)).1
          simpa [hslt] using h7) (hfix hI i (by simpa [hil] using h1)) (fun j q hjs hq hdep => by
          obtain ⟨h6, h7⟩ := hdeps j hdep
          have hjl : j < listed.size := by omega
          exact hI.done j q hq (fun h => hjs (.inl h)) (fun h => hjs (.inr h)) (by simpa [hjl] using h6))
        have hset : ∀ j, listed.getD j true = true → (listed.setIfInBounds i true).getD j true = true := fun j hj => by
          by_cases hji : i = j
          · subst hji; simp [hil]
          · rw [getD_set_ne true hji]; exact hj
        have hsetf : ∀ j, listed.getD j false = true → (listed.setIfInBounds i true).getD j false = true := fun j hj => by
          by_cases hji : i = j
          · subst hji; simp [hil]
          · rw [getD_set_ne false hji]; exact hj
        obtain ⟨dst, op, ty, pos, af, g⟩ := o
        subst hg
        by_cases his : i = s
        · subst his
          obtain rfl := hds (.inl rfl)
          refine wpOp_oe i ho .none (K := fun fr2 w2 => (i ∈ ([] : List Nat) ∨ True) ∧ AW P f n R k ops (fun _ => True) [] fuel (listed.setIfInBounds i true) fr2 w2) (fun fr2 w2 hh => hh) (hs'.mono fun u w2 hK => ⟨.inr trivial, ih _ _ _ ⟨by simp [hI.size], fun t ht => hI.fixed t fun j o' ho' hd' => ?_, fun j o' ho' hj i' hdep => by
            by_cases hji : i = j
            · subst hji
              rw [ho] at ho'
              injection ho' with ho'
              subst ho'
              exact hsetf _ (hdeps i' hdep).1
            · rw [getD_set_ne true hji] at hj
              exact hsetf _ (hI.shut j o' ho' hj i' hdep), fun j q hq hja hjb hj => ?_, fun hf => ?_, fun ha hb => ?_, fun ht => ?_⟩ (hcount true)⟩)
          · have h5 := ht j o' ho' hd'
            by_cases hji : i = j
            · subst hji
              rw [ho] at ho'
              exact absurd hd' (by rw [← Option.some.inj ho']; simp)
            · rwa [getD_set_ne true hji] at h5
          · rw [getD_set_ne true (Ne.symm hja)] at hj
            exact hI.done j q hq hja hjb hj
          · simp [hil] at hf
          · simpa using hK
          · exfalso
            rw [getD_set_ne true hss] at ht
            have ho2 : ops[s2]? = some ops[s2] := Array.getElem?_eq_getElem hsz2
            rw [ho2] at hdd
            have h6 := hI.shut s2 _ ho2 ht i (by simpa using hdd)
            simp [hil] at h6 h1
            rw [h6] at h1
            cases h1
        by_cases his2 : i = s2
        · subst his2
          obtain rfl := hds (.inr rfl)
          refine wpOp_oe i ho .none (K := fun fr2 w2 => (i ∈ ([] : List Nat) ∨ True) ∧ AW P f n R k ops (fun _ => True) [] fuel (listed.setIfInBounds i true) fr2 w2) (fun fr2 w2 hh => hh) (hs'.mono fun u w2 hK => ⟨.inr trivial, ih _ _ _ ⟨by simp [hI.size], fun t ht => hI.fixed t fun j o' ho' hd' => ?_, fun j o' ho' hj i' hdep => by
            by_cases hji : i = j
            · subst hji
              rw [ho] at ho'
              injection ho' with ho'
              subst ho'
              exact hsetf _ (hdeps i' hdep).1
            · rw [getD_set_ne true hji] at hj
              exact hsetf _ (hI.shut j o' ho' hj i' hdep), fun j q hq hja hjb hj => ?_, fun hf => ?_, fun ha hb => ?_, fun ht => ?_⟩ (hcount true)⟩)
          · have h5 := ht j o' ho' hd'
            by_cases hji : i = j
            · subst hji
              rw [ho] at ho'
              exact absurd hd' (by rw [← Option.some.inj ho']; simp)
            · rwa [getD_set_ne true hji] at h5
          · rw [getD_set_ne true (Ne.symm hjb)] at hj
            exact hI.done j q hq hja hjb hj
          · exfalso
            rw [getD_set_ne true (Ne.symm hss)] at hf
            rw [ho] at hdd
            have h7 := (hdeps s (by simpa using hdd)).1
            simp [hslt] at hf h7
            rw [hf] at h7
            cases h7
          · simp [hil] at hb
          · rw [if_neg his, if_pos rfl] at hK
            exact hK
        · obtain ⟨d, hdst, hdo⟩ := hdn (fun h => h.elim his his2)
          simp only at hdst
          subst hdst
          refine wpOp_oe i ho .none (K := fun fr2 w2 => (i ∈ ([] : List Nat) ∨ True) ∧ AW P f n R k ops (fun _ => True) [] fuel (listed.setIfInBounds i true) fr2 w2) (fun fr2 w2 hh => hh) (hs'.mono fun u w2 hu => ⟨.inr trivial, ?_⟩)
          rw [if_neg his, if_neg his2] at hu
          obtain ⟨rfl, rfl⟩ := hu
          refine ih _ _ _ ⟨by simp [hI.size], fun t ht => ?_, fun j o' ho' hj i' hdep => by
            by_cases hji : i = j
            · subst hji
              rw [ho] at ho'
              injection ho' with ho'
              subst ho'
              exact hsetf _ (hdeps i' hdep).1
            · rw [getD_set_ne true hji] at hj
              exact hsetf _ (hI.shut j o' ho' hj i' hdep), fun j q hq hja hjb hj => ?_, fun hf => ?_, fun ha hb => ?_, fun ht => ?_⟩ (hcount true)
          · have h2 := hI.fixed t fun j o' ho' hd' => by
              have h5 := ht j o' ho' hd'
              by_cases hji : i = j
              · subst hji; simp [hil] at h5
              · rwa [getD_set_ne true hji] at h5
            have h3 : Nat.beq t d = false := by
              rw [← Bool.not_eq_true]
              intro hb
              have := Nat.eq_of_beq_eq_true hb
              subst this
              have h5 := ht i _ ho rfl
              simp [hil] at h5
            show upd fr' d u t = fr t
            simp only [upd, h3, cond_false]
            exact h2
          · show upd fr' d u (dstOf ops j) = q
            by_cases hji : j = i
            · subst hji
              rw [hp] at hq
              injection hq with hq
              subst hq
              have : Nat.beq (dstOf ops j) d = true := by rw [hdo]; simp
              simp only [upd, this, cond_true]
            · rw [getD_set_ne true (Ne.symm hji)] at hj
              have hjz : j < ops.size := by
                have := (List.getElem?_eq_some_iff.1 hq).1
                omega
              have hbeq : Nat.beq (dstOf ops j) d = false := by
                rw [← Bool.not_eq_true]
                intro hb
                exact hne (fun h => h.elim his his2) j hjz hji (fun h => h.elim hja hjb) (by rw [Nat.eq_of_beq_eq_true hb, hdo])
              simp only [upd, hbeq, cond_false]
              exact hI.done j q hq hja hjb hj
          · rw [getD_set_ne true his] at hf
            exact hI.before hf
          · rw [getD_set_ne true his] at ha
            rw [getD_set_ne true his2] at hb
            exact hI.mid ha hb
          · rw [getD_set_ne true his2] at ht
            exact hI.after ht
  refine main ops.size _ fr w1 ⟨by simp, fun t _ => rfl, fun j o ho hj => ?_, fun j v hv _ _ hj => ?_, fun _ => rfl, fun hs _ => ?_, fun hs => ?_⟩ ?_
  · exfalso
    have hjs := (Array.getElem?_eq_some_iff.1 ho).1
    simp [hjs] at hj
  · exfalso
    have hjs : j < ops.size := by
      have := (List.getElem?_eq_some_iff.1 hv).1
      omega
    simp [hjs] at hj
  · exfalso
    have hsz : s < ops.size := by
      have h0 : st2Ok ops s s2 = true := hok
      simp only [st2Ok, Bool.and_eq_true] at h0
      simpa using h0.1.1.1.1
    simp [hsz] at hs
  · exfalso
    have hsz : s2 < ops.size := by
      have h0 : st2Ok ops s s2 = true := hok
      simp only [st2Ok, Bool.and_eq_true] at h0
      simpa using h0.1.1.1.2
    simp [hsz] at hs
  · have := List.count_le_length (a := false) (l := (Array.replicate ops.size false).toList)
    simp
end
section
variable {P : Program} {n : Nat} {fr : Fr} {w : World}
theorem res0 {fn : Func} (h : fn.results = #[]) : (results fn (actOf n fr).tmps).run P w = .ok (.tuple #[]) w := by
  rw [results_eq, h]
  simp [Sem.run_bind]
end
structure Bt (T : Nat) (w w' : World) : Prop where
  keep : ∀ (g : Nat) (o : Obj), w.heap[g]? = some o → (∀ (cs : Array Value) (fz : Nat × Nat), o ≠ Obj.cells cs T fz) → w'.heap[g]? = some o
theorem bt_of_grown {w w' : World} {base T c : Nat} {k : IntKind} {A : Option Addr} {L : List Int} (hO : Ow w base T k A c L) (h : w.grownBy w' (Value.ownBlock (.slice A L.length c))) : Bt T w w' := ⟨fun g o hg hne => by
  have hk := lt_of_blk hg
  refine (h.block g hk (fun he => ?_)).trans hg
  rcases hO.1.2 with ⟨hv, hn⟩ | ⟨g', cap, cur, hv, hb, hg', _⟩
  · injection hv with hA _ _
    rw [hA] at he
    simp [Value.ownBlock] at he
  · injection hv with hA _ hc
    rw [hA] at he
    simp only [Value.ownBlock, Option.some.injEq] at he
    subst he
    rw [hg'] at hg
    exact hne _ _ (Option.some.inj hg).symm⟩
theorem Wd.bt {w w' : World} {T T' : Nat} {k : IntKind} {A : Option Addr} {xs : List Int} (h : Wd w T' k A xs) (e : Bt T w w') (hT : T' ≠ T) : Wd w' T' k A xs := by
  rcases h with h | ⟨g, off, cs, fz, hA, hg, hc⟩
  · exact .inl h
  · exact .inr ⟨g, off, cs, fz, hA, e.keep _ _ hg (fun cs' fz' he => by injection he with _ h2 _; exact hT h2), hc⟩
theorem Wc.bt {m T T' : Nat} {k : IntKind} {w w' : World} {A : Option Addr} {l c : Nat} {x : Int} (h : Wc m T' k w A l c x) (e : Bt T w w') (hT : T' ≠ T) : Wc m T' k w' A l c x := by
  obtain ⟨xs, h1, h2, h3, h4⟩ := h
  exact ⟨xs, h1, h2, h3.bt e hT, h4⟩
section
variable {P : Program} {n : Nat} {fr : Fr} {w : World} {ty : TypeId}
theorem oe_appendT {t e : TypeId} {x y : Operand} {k : IntKind} {A : Option Addr} {c base bytes g o c2 m : Nat} {L M : List Int} {K : Value → World → Prop} (ht : P.underlying t = some (.slice e))
    (hi : (P.info? e).map (fun i => (i.zero, i.size, i.bytes)) = some (some (.int k 0), 1, bytes)) (hx : EV n fr x (.slice A L.length c)) (hy : EV n fr y (.slice (some ⟨g, o, none⟩) m c2))
    (hO : Ow w base e k A c L) (hW : Wd w e k (some ⟨g, o, none⟩) M) (hm : M.length = m) (hb : (L.length + m) * bytes ≤ 140737488355328) (hl : L.length + m ≤ 140737488355328)
    (h : ∀ A' c' w', Ow w' base e k A' c' (L ++ M) → Below base w w' → Bt e w w' → K (.slice A' (L ++ M).length c') w') : OE P n (.call { callee := .builtin .append, args := #[x, y], argTypes := #[t, t] }) ty fr w K := by
  cases hin : P.info? e with
  | none => simp [hin] at hi
  | some inf =>
    simp only [hin, Option.map_some, Option.some.injEq, Prod.mk.injEq] at hi
    obtain ⟨h1, h2, h3⟩ := hi
    subst hm
    obtain ⟨v', w', hr, hown, hgr, _⟩ := run_append_own (P := P) w base t ty e inf (.int k 0) 1 bytes ht hin h1 h2 h3 rfl (by decide) (.slice A L.length c) L.length _ hO.1 ⟨g, o, none⟩ M.length c2 (M.map (Value.int k)) (by simp)
      (fun j u hj => by
        have hjl : j < M.length := by have := (List.getElem?_eq_some_iff.1 hj).1; simpa using this
        have ha : (⟨g, o, none⟩ : Addr).add j = ⟨g, o + j, none⟩ := by unfold Addr.add; split <;> simp_all
        rw [ha, hW.cell hjl]
        rw [List.getElem?_map, List.getElem?_eq_getElem hjl] at hj
        simp only [Option.map_some, Option.some.injEq] at hj
        rw [← hj]
        simp [List.getD_eq_getElem?_getD, hjl]) (ints_oneCell k M) (by simp only [maxLen]; omega) hb hO.2
    obtain ⟨A', c', rfl⟩ := own_slice hown
    have hO' : Ow w' base e k A' c' (L ++ M) := by
      unfold Ow
      rw [List.length_append, List.map_append]
      exact ⟨hown, Nat.le_trans hO.2 hgr.size⟩
    have hr' : (Builtin.append_ #[t, t] ty #[.slice A L.length c, .slice (some ⟨g, o, none⟩) M.length c2]).run P w = .ok (.slice A' (L ++ M).length c') w' := by rw [List.length_append]; exact hr
    refine OE.of_run (fun _ _ _ _ => ?_) (h A' c' w' hO' (below_of_grown hgr hO.2 (own_row_ge hO.1)) (bt_of_grown hO hgr))
    unfold EV at hx hy
    simp only [execOp, resolve, invoke, builtin, hx, hy, hr', List.map_toArray, List.map_cons, List.map_nil, Sem.run_bind, Sem.run_pure, Result.andThen_ok]
theorem oe_buildSlice0 {t e : TypeId} {sz : Nat} {K : Value → World → Prop} (ht : P.underlying t = some (.slice e)) (hs : sizeB P e = some sz)
    (h : ∀ b w', New w b (.cells #[] e) w' → K (.slice (some ⟨b, 0, none⟩) 0 0) w') : OE P n (.buildSlice t 0 #[]) ty fr w K :=
  OE.of_run (v := .slice (some ⟨w.heap.size, 0, none⟩) 0 0) (w' := w.alloc (.cells #[] e)) (fun _ _ _ _ => by
    have h1 : ¬ (0 * sz > 2 ^ 24) := by simp
    have h2 : 0 * sz = 0 := Nat.zero_mul _
    simp only [execOp, Instr.buildSlice, Sem.run_bind, underlying, Sem.run_pure, run_program, ht, Result.andThen_ok, run_sizeOf hs, if_neg h1, if_pos h2]
    have e1 : ((Array.range (0 * sz)).map fun x => (#[] : Array Value)[x % (#[] : Array Value).size]!) = #[] := by rw [h2]; simp
    simp only [e1, List.map_toArray, List.map_nil, Instr.fill, newRow, run_newObj, Sem.run_bind, Sem.run_pure, Result.andThen_ok]
    rfl) (h _ _ (new_alloc w _))
end
end Go.Proofs.Ytmbpomcbdopgnaa.Fw
