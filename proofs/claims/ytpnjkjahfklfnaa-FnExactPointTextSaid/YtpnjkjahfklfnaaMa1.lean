/- Words: sums over lists, plain mathematics. -/
import Derived.Test.YtpnjkjahfklfnaaFw4
set_option linter.unusedVariables false
set_option linter.unusedSimpArgs false
namespace Go.Proofs.Ytpnjkjahfklfnaa.Fw
section
variable {B : Int}
theorem okW.tail {x : Int} {xs : List Int} (h : okW B (x :: xs)) : okW B xs := fun y hy => h y (List.mem_cons_of_mem _ hy)
theorem okW.head {x : Int} {xs : List Int} (h : okW B (x :: xs)) : 0 ≤ x ∧ x < B := h x (by simp)
theorem okW.nil : okW B [] := fun x hx => by cases hx
theorem okW.cons {x : Int} {xs : List Int} (h0 : 0 ≤ x) (h1 : x < B) (h : okW B xs) : okW B (x :: xs) := by
  intro y hy
  rcases List.mem_cons.1 hy with rfl | hy
  · exact ⟨h0, h1⟩
  · exact h y hy
theorem okW.append {xs ys : List Int} (h : okW B xs) (h2 : okW B ys) : okW B (xs ++ ys) := by
  intro y hy
  rcases List.mem_append.1 hy with hy | hy
  · exact h y hy
  · exact h2 y hy
theorem okW.take {xs : List Int} (h : okW B xs) (n : Nat) : okW B (xs.take n) := fun y hy => h y (List.mem_of_mem_take hy)
theorem okW.drop {xs : List Int} (h : okW B xs) (n : Nat) : okW B (xs.drop n) := fun y hy => h y (List.mem_of_mem_drop hy)
theorem okW.getD {xs : List Int} (h : okW B xs) (hB : 0 < B) (i : Nat) : 0 ≤ xs.getD i 0 ∧ xs.getD i 0 < B := by
  by_cases hi : i < xs.length
  · have := h xs[i] (List.getElem_mem hi)
    simpa [List.getD_eq_getElem?_getD, hi] using this
  · simp [List.getD_eq_getElem?_getD, List.getElem?_eq_none (by omega : xs.length ≤ i), hB]
theorem okW.set {xs : List Int} (h : okW B xs) {z : Int} (h0 : 0 ≤ z) (h1 : z < B) (i : Nat) : okW B (xs.set i z) := by
  intro y hy
  rcases List.mem_or_eq_of_mem_set hy with hy | hy
  · exact h y hy
  · subst hy; exact ⟨h0, h1⟩
theorem okW.replicate (hB : 0 < B) (n : Nat) : okW B (List.replicate n 0) := by
  intro y hy; rw [List.eq_of_mem_replicate hy]; exact ⟨Int.le_refl _, hB⟩
theorem valB_nonneg (hB : 0 ≤ B) : ∀ {xs : List Int}, okW B xs → 0 ≤ valB B xs
  | [], _ => Int.le_refl _
  | x :: xs, h => by
    have := valB_nonneg hB h.tail
    have h1 := h.head
    simp only [valB]
    have := Int.mul_nonneg hB this
    omega
theorem valB_lt (hB : 0 ≤ B) : ∀ {xs : List Int}, okW B xs → valB B xs < B ^ xs.length
  | [], _ => by simp [valB]
  | x :: xs, h => by
    have ih := valB_lt hB h.tail
    have h1 := h.head
    simp only [valB, List.length_cons, Int.pow_succ]
    have h2 : B * (valB B xs + 1) ≤ B * B ^ xs.length := Int.mul_le_mul_of_nonneg_left (by omega) hB
    rw [Int.mul_add, Int.mul_one] at h2
    rw [Int.mul_comm (B ^ xs.length) B]
    omega
theorem valB_append (xs ys : List Int) : valB B (xs ++ ys) = valB B xs + B ^ xs.length * valB B ys := by
  induction xs with
  | nil => simp [valB]
  | cons x xs ih => simp only [List.cons_append, valB, ih, List.length_cons, Int.pow_succ]; grind
theorem valB_snoc (xs : List Int) (y : Int) : valB B (xs ++ [y]) = valB B xs + B ^ xs.length * y := by
  rw [valB_append]; simp [valB]
theorem take_snoc (xs : List Int) (i : Nat) (h : i < xs.length) : xs.take (i + 1) = xs.take i ++ [xs.getD i 0] := by
  rw [List.take_succ_eq_append_getElem h]; simp [List.getD_eq_getElem?_getD, h]
theorem valB_take_succ (xs : List Int) (i : Nat) (h : i < xs.length) : valB B (xs.take (i + 1)) = valB B (xs.take i) + B ^ i * xs.getD i 0 := by
  rw [take_snoc xs i h, valB_snoc, List.length_take, Nat.min_eq_left (by omega)]
theorem valB_take_ge (xs : List Int) (i : Nat) (h : xs.length ≤ i) : valB B (xs.take i) = valB B xs := by rw [List.take_of_length_le h]
/-- The next word, or 0 behind the end. -/
theorem valB_take_succ' (xs : List Int) (i : Nat) : valB B (xs.take (i + 1)) = valB B (xs.take i) + B ^ i * xs.getD i 0 := by
  by_cases h : i < xs.length
  · exact valB_take_succ xs i h
  · rw [List.take_of_length_le (by omega), List.take_of_length_le (by omega), List.getD_eq_getElem?_getD, List.getElem?_eq_none (by omega)]; simp
theorem valB_split (xs : List Int) (i : Nat) : valB B xs = valB B (xs.take i) + B ^ (min i xs.length) * valB B (xs.drop i) := by
  conv => lhs; rw [← List.take_append_drop i xs, valB_append, List.length_take]
theorem valB_zeros (n : Nat) : valB B (List.replicate n 0) = 0 := by
  induction n with
  | zero => rfl
  | succ n ih => simp [List.replicate_succ, valB, ih]
theorem take_set_le (xs : List Int) (i j : Nat) (z : Int) (h : i ≤ j) : (xs.set j z).take i = xs.take i := by
  rw [List.take_set]; rw [List.set_eq_of_length_le]; rw [List.length_take]; omega
theorem take_set_succ (xs : List Int) (i : Nat) (z : Int) (h : i < xs.length) : (xs.set i z).take (i + 1) = xs.take i ++ [z] := by
  rw [take_snoc _ _ (by simpa using h), take_set_le _ _ _ _ (Nat.le_refl _)]
  simp [List.getD_eq_getElem?_getD, h]
theorem getD_set_eq (xs : List Int) (i : Nat) (z : Int) (h : i < xs.length) : (xs.set i z).getD i 0 = z := by simp [List.getD_eq_getElem?_getD, h]
theorem getD_set_ne (xs : List Int) (i j : Nat) (z : Int) (h : i ≠ j) : (xs.set i z).getD j 0 = xs.getD j 0 := by simp [List.getD_eq_getElem?_getD, h]
theorem valB_set (xs : List Int) (i : Nat) (z : Int) (h : i < xs.length) : valB B (xs.set i z) = valB B xs + B ^ i * (z - xs.getD i 0) := by
  induction xs generalizing i with
  | nil => simp at h
  | cons x xs ih =>
    cases i with
    | zero => simp [valB]; omega
    | succ i =>
      have := ih i (by simpa using h)
      simp only [List.set_cons_succ, valB, this, Int.pow_succ, List.getD_cons_succ]
      grind

/-! ### Noughts at the end -/
def trimL (xs : List Int) : List Int := (xs.reverse.dropWhile (· == 0)).reverse
theorem trimL_snoc_zero (xs : List Int) : trimL (xs ++ [0]) = trimL xs := by simp [trimL]
theorem trimL_snoc (xs : List Int) {x : Int} (h : x ≠ 0) : trimL (xs ++ [x]) = xs ++ [x] := by simp [trimL, h]
theorem trimL_nil : trimL [] = [] := rfl
theorem list_snoc (xs : List Int) (h : 0 < xs.length) : xs = xs.take (xs.length - 1) ++ [xs.getD (xs.length - 1) 0] := by
  have := take_snoc xs (xs.length - 1) (by omega)
  rw [Nat.sub_add_cancel h] at this
  rw [← this, List.take_of_length_le (Nat.le_refl _)]
theorem trimL_spec (n : Nat) : ∀ xs : List Int, xs.length = n → trimL xs = xs.take (trimL xs).length ∧ (trimL xs).length ≤ xs.length ∧ canon (trimL xs) ∧ valB B (trimL xs) = valB B xs := by
  induction n with
  | zero =>
    intro xs h
    obtain rfl := List.eq_nil_of_length_eq_zero h
    simp [trimL, canon]
  | succ n ih =>
    intro xs h
    rw [list_snoc xs (by omega), show xs.length - 1 = n by omega]
    by_cases hz : xs.getD n 0 = 0
    · rw [hz, trimL_snoc_zero]
      obtain ⟨h1, h2, h3, h4⟩ := ih (xs.take n) (by simp; omega)
      refine ⟨?_, ?_, h3, ?_⟩
      · rw [List.take_append_of_le_length h2]; exact h1
      · simp at h2 ⊢; omega
      · rw [h4, valB_snoc]; simp
    · rw [trimL_snoc _ hz]
      refine ⟨by rw [List.take_of_length_le (Nat.le_refl _)], Nat.le_refl _, ?_, rfl⟩
      simpa [canon, List.getD_eq_getElem?_getD] using hz
theorem trimL_take (xs : List Int) : trimL xs = xs.take (trimL xs).length := (trimL_spec (B := 0) _ xs rfl).1
theorem trimL_len (xs : List Int) : (trimL xs).length ≤ xs.length := (trimL_spec (B := 0) _ xs rfl).2.1
theorem trimL_canon (xs : List Int) : canon (trimL xs) := (trimL_spec (B := 0) _ xs rfl).2.2.1
theorem trimL_val (xs : List Int) : valB B (trimL xs) = valB B xs := (trimL_spec _ xs rfl).2.2.2
theorem trimL_ok {xs : List Int} (h : okW B xs) : okW B (trimL xs) := by rw [trimL_take]; exact h.take _

/-! ### The size of what has no nought at its end -/
theorem canon_ge (hB : 0 < B) {xs : List Int} (h : okW B xs) (hc : canon xs) (hn : 0 < xs.length) : B ^ (xs.length - 1) ≤ valB B xs := by
  have e := list_snoc xs hn
  have hx : xs.getD (xs.length - 1) 0 ≠ 0 := by
    intro h0
    apply hc
    rw [List.getLast?_eq_getElem?]
    have hl : xs.length - 1 < xs.length := by omega
    simp only [List.getD_eq_getElem?_getD, List.getElem?_eq_getElem hl, Option.getD_some] at h0
    rw [List.getElem?_eq_getElem hl, h0]
  have h1 := h.getD hB (xs.length - 1)
  have h2 := valB_nonneg (Int.le_of_lt hB) (h.take (xs.length - 1))
  rw [e, valB_snoc]
  have hl : (xs.take (xs.length - 1)).length = xs.length - 1 := by simp
  have h3 : B ^ (xs.length - 1) * 1 ≤ B ^ (xs.length - 1) * xs.getD (xs.length - 1) 0 := Int.mul_le_mul_of_nonneg_left (by omega) (Int.le_of_lt (Int.pow_pos hB))
  rw [hl]
  have e2 : (xs.take (xs.length - 1) ++ [xs.getD (xs.length - 1) 0]).length = xs.length := by simp; omega
  rw [e2]
  omega
theorem canon_pos (hB : 0 < B) {xs : List Int} (h : okW B xs) (hc : canon xs) : 0 < xs.length ↔ 0 < valB B xs := by
  constructor
  · intro hn
    have := canon_ge hB h hc hn
    have : 0 < B ^ (xs.length - 1) := Int.pow_pos hB
    omega
  · intro hv
    cases xs with
    | nil => simp [valB] at hv
    | cons x xs => simp
theorem pow_le_of {m n : Nat} (hB : 1 ≤ B) (h : m ≤ n) : B ^ m ≤ B ^ n := by
  obtain ⟨d, rfl⟩ := Nat.le.dest h
  rw [Int.pow_add]
  have h1 : (1 : Int) ≤ B ^ d := Int.pow_pos (by omega)
  have h2 : (0 : Int) ≤ B ^ m := Int.le_of_lt (Int.pow_pos (by omega))
  have := Int.mul_le_mul_of_nonneg_left h1 h2
  omega
/-- Shorter is less. -/
theorem lt_of_len (hB : 1 ≤ B) {xs ys : List Int} (hx : okW B xs) (hy : okW B ys) (hcy : canon ys) (h : xs.length < ys.length) : valB B xs < valB B ys := by
  have h1 := valB_lt (by omega) hx
  have h2 := canon_ge (by omega) hy hcy (by omega)
  have h3 := pow_le_of hB (show xs.length ≤ ys.length - 1 by omega)
  omega
/-- The first word from above that differs decides. -/
theorem lt_of_word (hB : 0 < B) {xs ys : List Int} (hx : okW B xs) (hy : okW B ys) (i : Nat) (hlx : i < xs.length) (hly : i < ys.length) (hd : valB B (xs.drop (i + 1)) = valB B (ys.drop (i + 1))) (hw : xs.getD i 0 < ys.getD i 0) :
    valB B xs < valB B ys := by
  have e1 := valB_split (B := B) xs (i + 1)
  have e2 := valB_split (B := B) ys (i + 1)
  rw [Nat.min_eq_left (by omega)] at e1 e2
  rw [valB_take_succ xs i hlx] at e1
  rw [valB_take_succ ys i hly] at e2
  have b1 := valB_lt (Int.le_of_lt hB) (hx.take i)
  rw [List.length_take, Nat.min_eq_left (by omega)] at b1
  have b2 := valB_nonneg (Int.le_of_lt hB) (hy.take i)
  have h3 : B ^ i * (xs.getD i 0 + 1) ≤ B ^ i * ys.getD i 0 := Int.mul_le_mul_of_nonneg_left (by omega) (Int.le_of_lt (Int.pow_pos hB))
  rw [Int.mul_add, Int.mul_one] at h3
  rw [e1, e2, hd]
  omega
/-- Nothing is lost: the same value is the same words. -/
theorem words_unique (hB : 0 < B) : ∀ {xs ys : List Int}, okW B xs → okW B ys → canon xs → canon ys → valB B xs = valB B ys → xs = ys
  | [], [], _, _, _, _, _ => rfl
  | [], y :: ys, _, hy, _, hcy, h => by
    have := (canon_pos hB hy hcy).1 (by simp)
    simp only [valB] at h this
    omega
  | x :: xs, [], hx, _, hcx, _, h => by
    have := (canon_pos hB hx hcx).1 (by simp)
    simp only [valB] at h this
    omega
  | x :: xs, y :: ys, hx, hy, hcx, hcy, h => by
    simp only [valB] at h
    have h1 := hx.head
    have h2 := hy.head
    have e : x = y := by
      have a := Int.emod_eq_of_lt h1.1 h1.2
      have b := Int.emod_eq_of_lt h2.1 h2.2
      have c := congrArg (· % B) h
      simp only [Int.add_mul_emod_self_left] at c
      omega
    subst e
    have hv : valB B xs = valB B ys := by
      have : B * valB B xs = B * valB B ys := by omega
      exact Int.eq_of_mul_eq_mul_left (by omega) this
    have cx : canon xs := by
      cases xs with
      | nil => simp [canon]
      | cons a l => simpa [canon] using hcx
    have cy : canon ys := by
      cases ys with
      | nil => simp [canon]
      | cons a l => simpa [canon] using hcy
    rw [words_unique hB hx.tail hy.tail cx cy hv]
end
end Go.Proofs.Ytpnjkjahfklfnaa.Fw
