/- Words: what the loops keep, plain mathematics. -/
import Derived.Test.YtpnjkjahfklfnaaMa1
set_option linter.unusedVariables false
set_option linter.unusedSimpArgs false
namespace Go.Proofs.Ytpnjkjahfklfnaa.Fw
section
variable {B : Int}
theorem getD_take (xs : List Int) (n i : Nat) (h : i < n) : (xs.take n).getD i 0 = xs.getD i 0 := by
  simp [List.getD_eq_getElem?_getD, List.getElem?_take, h]
theorem trim_less (xs : List Int) (n : Nat) (h0 : 0 < n) (hn : n ≤ xs.length) (h : (xs.take n).getD (n - 1) 0 = 0) : trimL (xs.take (n - 1)) = trimL (xs.take n) := by
  rw [getD_take xs n (n - 1) (by omega)] at h
  obtain ⟨m, rfl⟩ : ∃ m, n = m + 1 := ⟨n - 1, by omega⟩
  rw [take_snoc xs m (by omega)]
  simp only [Nat.add_sub_cancel] at h ⊢
  rw [h, trimL_snoc_zero]
theorem trim_done (xs : List Int) (n : Nat) (hn : n ≤ xs.length) (ht : trimL (xs.take n) = trimL xs) (h : n = 0 ∨ (xs.take n).getD (n - 1) 0 ≠ 0) : (trimL xs).length = n := by
  rw [← ht]
  by_cases h0 : n = 0
  · subst h0; simp [trimL]
  · have h := h.resolve_left h0
    rw [getD_take xs n (n - 1) (by omega)] at h
    obtain ⟨m, rfl⟩ : ∃ m, n = m + 1 := ⟨n - 1, by omega⟩
    simp only [Nat.add_sub_cancel] at h
    rw [take_snoc xs m (by omega), trimL_snoc _ h]
    simp; omega
theorem getD_ge (xs : List Int) (i : Nat) (h : xs.length ≤ i) : xs.getD i 0 = 0 := by simp [List.getD_eq_getElem?_getD, List.getElem?_eq_none h]
/-! ### Comparing -/
theorem cmp_len (hB : 1 ≤ B) {xs ys : List Int} (hx : okW B xs) (hy : okW B ys) (cx : canon xs) (cy : canon ys) (h : (xs.length : Int) ≠ ys.length) :
    (((xs.length : Int) - ys.length < 0 ↔ valB B xs < valB B ys)) ∧ ((xs.length : Int) - ys.length = 0 ↔ valB B xs = valB B ys) := by
  rcases Nat.lt_or_ge xs.length ys.length with h1 | h1
  · have := lt_of_len hB hx hy cy h1
    omega
  · have := lt_of_len hB hy hx cx (by omega)
    omega
theorem drop_step (xs ys : List Int) (n : Nat) (h0 : 0 < n) (hx : n ≤ xs.length) (hy : n ≤ ys.length) (h : xs.drop n = ys.drop n) (he : xs.getD (n - 1) 0 = ys.getD (n - 1) 0) : xs.drop (n - 1) = ys.drop (n - 1) := by
  rw [List.drop_eq_getElem_cons (by omega : n - 1 < xs.length), List.drop_eq_getElem_cons (by omega : n - 1 < ys.length)]
  simp only [List.getD_eq_getElem?_getD, List.getElem?_eq_getElem (by omega : n - 1 < xs.length), List.getElem?_eq_getElem (by omega : n - 1 < ys.length), Option.getD_some] at he
  rw [he, Nat.sub_add_cancel (by omega), h]
theorem cmp_word (hB : 0 < B) {xs ys : List Int} (hx : okW B xs) (hy : okW B ys) (n : Nat) (h0 : 0 < n) (hlx : n ≤ xs.length) (hly : n ≤ ys.length) (h : xs.drop n = ys.drop n) (hw : xs.getD (n - 1) 0 < ys.getD (n - 1) 0) : valB B xs < valB B ys :=
  lt_of_word hB hx hy (n - 1) (by omega) (by omega) (by rw [Nat.sub_add_cancel (by omega), h]) hw
/-! ### Adding and taking away -/
theorem add_inv {xs ys L : List Int} {i : Nat} {c s : Int} (hL : i < L.length) (h : valB B (L.take i) + c * B ^ i = valB B (xs.take i) + valB B (ys.take i)) (hs : s = xs.getD i 0 + ys.getD i 0 + c) :
    valB B ((L.set i (s % B)).take (i + 1)) + (s / B) * B ^ (i + 1) = valB B (xs.take (i + 1)) + valB B (ys.take (i + 1)) := by
  rw [take_set_succ _ _ _ hL, valB_snoc, List.length_take, Nat.min_eq_left (by omega), valB_take_succ', valB_take_succ', Int.pow_succ]
  have h2 := Int.mul_ediv_add_emod s B
  generalize s / B = q at *
  generalize s % B = r at *
  generalize B ^ i = P at *
  generalize xs.getD i 0 = x at *
  generalize ys.getD i 0 = y at *
  grind
theorem sub_inv (hB : 0 < B) {xs ys L : List Int} {i : Nat} {b : Int} (hL : i < L.length) (h : valB B (L.take i) - b * B ^ i = valB B (xs.take i) - valB B (ys.take i)) (hx : okW B xs) (hy : okW B ys) (hb : 0 ≤ b ∧ b ≤ 1) :
    valB B ((L.set i ((xs.getD i 0 - ys.getD i 0 - b) % B)).take (i + 1)) - (if xs.getD i 0 < ys.getD i 0 + b then 1 else 0) * B ^ (i + 1) = valB B (xs.take (i + 1)) - valB B (ys.take (i + 1)) := by
  rw [take_set_succ _ _ _ hL, valB_snoc, List.length_take, Nat.min_eq_left (by omega), valB_take_succ', valB_take_succ', Int.pow_succ]
  have h1 := hx.getD hB i
  have h2 := hy.getD hB i
  generalize B ^ i = P at *
  generalize xs.getD i 0 = x at *
  generalize ys.getD i 0 = y at *
  by_cases hlt : x < y + b
  · rw [if_pos hlt]
    have e : (x - y - b) % B = x - y - b + B := by
      rw [← Int.add_emod_right, Int.emod_eq_of_lt (by omega) (by omega)]
    rw [e]; grind
  · rw [if_neg hlt, Int.emod_eq_of_lt (by omega) (by omega)]; grind
theorem add_fin (hB : 0 < B) {xs ys L : List Int} {i : Nat} {c : Int} (hl : L.length = xs.length + 1) (hi : i ≤ xs.length) (hge : xs.length ≤ i) (hy : ys.length ≤ xs.length) (h : valB B (L.take i) + c * B ^ i = valB B (xs.take i) + valB B (ys.take i)) :
    valB B xs + valB B ys = valB B (L.set xs.length c) := by
  obtain rfl : i = xs.length := by omega
  rw [valB_take_ge xs _ (Nat.le_refl _), valB_take_ge ys _ hy] at h
  rw [← h, ← valB_take_ge (L.set xs.length c) (xs.length + 1) (by simp; omega), take_set_succ _ _ _ (by omega), valB_snoc, List.length_take, Nat.min_eq_left (by omega), Int.mul_comm]
theorem sub_fin (hB : 0 < B) {xs ys L : List Int} {i : Nat} {b : Int} (hl : L.length = xs.length) (hi : i ≤ xs.length) (hge : xs.length ≤ i) (hy : ys.length ≤ xs.length) (hok : okW B L) (hb : 0 ≤ b ∧ b ≤ 1) (hle : valB B ys ≤ valB B xs)
    (h : valB B (L.take i) - b * B ^ i = valB B (xs.take i) - valB B (ys.take i)) : valB B xs - valB B ys = valB B L := by
  obtain rfl : i = xs.length := by omega
  rw [valB_take_ge xs _ (Nat.le_refl _), valB_take_ge ys _ hy, valB_take_ge L _ (by omega)] at h
  have h1 := valB_lt (Int.le_of_lt hB) hok
  rw [hl] at h1
  have hb' : b = 0 ∨ b = 1 := by omega
  rcases hb' with rfl | rfl
  · omega
  · omega
end
end Go.Proofs.Ytpnjkjahfklfnaa.Fw
