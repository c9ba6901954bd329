/- Decimal digits: plain mathematics. -/
import Derived.Test.YtpnjkjahfklfnaaMa10
set_option linter.unusedVariables false
set_option linter.unusedSimpArgs false
namespace Go.Proofs.Ytpnjkjahfklfnaa.Fw
/-! ### Decimal digits -/
/-- The digits of a number, the lowest first, as characters; 0 has none. -/
def dg (n : Nat) : List Int := if h : n = 0 then [] else (48 + ((n % 10 : Nat) : Int)) :: dg (n / 10)
termination_by n
decreasing_by omega
theorem dg_zero : dg 0 = [] := by rw [dg]; simp
theorem dg_pos {n : Nat} (h : n ≠ 0) : dg n = (48 + ((n % 10 : Nat) : Int)) :: dg (n / 10) := by rw [dg]; simp [h]
theorem dg_nil {n : Nat} : dg n = [] ↔ n = 0 := by
  constructor
  · intro h
    by_cases hn : n = 0
    · exact hn
    · rw [dg_pos hn] at h; cases h
  · intro h; subst h; exact dg_zero
theorem dg_rg (n : Nat) : ∀ c ∈ dg n, 48 ≤ c ∧ c ≤ 57 := by
  induction n using Nat.strongRecOn with
  | _ n ih =>
    by_cases hn : n = 0
    · subst hn; rw [dg_zero]; intro c hc; cases hc
    · rw [dg_pos hn]
      intro c hc
      rcases List.mem_cons.1 hc with h | h
      · omega
      · exact ih (n / 10) (by omega) c h
theorem dg_len {n k : Nat} : (dg n).length ≤ k ↔ n < 10 ^ k := by
  induction k generalizing n with
  | zero => simp [dg_nil]
  | succ k ih =>
    by_cases hn : n = 0
    · subst hn; rw [dg_zero]; simp; exact Nat.pow_pos (by decide)
    · rw [dg_pos hn, List.length_cons, Nat.add_le_add_iff_right, ih, Nat.pow_succ]; omega
/-- A number's text. -/
def txtL (z : Int) : List Int := (if z < 0 then [45] else []) ++ (if z = 0 then [48] else (dg z.natAbs).reverse)
theorem txt_step {x : Int} {M D : List Int} (h0 : 0 < x) (h : (dg x.toNat).reverse ++ M = D) : (dg (x / 10).toNat).reverse ++ ((48 + x % 10) :: M) = D := by
  rw [dg_pos (by omega)] at h
  rw [← h, List.reverse_cons, List.append_assoc]
  have e1 : (x / 10).toNat = x.toNat / 10 := by omega
  have e2 : (48 + x % 10 : Int) = 48 + ((x.toNat % 10 : Nat) : Int) := by omega
  rw [e1, e2]; rfl
theorem txt_snoc {x : Int} {L D : List Int} (h0 : 0 < x) (h : L ++ dg x.toNat = D) : (L ++ [48 + x % 10]) ++ dg (x / 10).toNat = D := by
  rw [dg_pos (by omega)] at h
  rw [← h, List.append_assoc]
  have e1 : (x / 10).toNat = x.toNat / 10 := by omega
  have e2 : (48 + x % 10 : Int) = 48 + ((x.toNat % 10 : Nat) : Int) := by omega
  rw [e1, e2]; rfl
/-- What a text is worth, whatever its characters are. -/
def valD (cs : List Int) : Int := cs.foldl (fun a c => a * 10 + (c - 48)) 0
theorem valD_snoc (cs : List Int) (c : Int) : valD (cs ++ [c]) = valD cs * 10 + (c - 48) := by simp [valD]
theorem valD_dg (n : Nat) : valD (dg n).reverse = (n : Int) := by
  induction n using Nat.strongRecOn with
  | _ n ih =>
    by_cases hn : n = 0
    · subst hn; rw [dg_zero]; rfl
    · rw [dg_pos hn, List.reverse_cons, valD_snoc, ih (n / 10) (by omega)]; omega
def isD (c : Int) : Prop := 48 ≤ c ∧ c ≤ 57
instance (c : Int) : Decidable (isD c) := by unfold isD; infer_instance
theorem valD_nonneg : ∀ (n : Nat) {cs : List Int}, cs.length = n → (∀ c ∈ cs, isD c) → 0 ≤ valD cs := by
  intro n
  induction n with
  | zero => intro cs hl _; have : cs = [] := List.eq_nil_of_length_eq_zero hl; subst this; decide
  | succ n ih =>
    intro cs hl h
    have hs := list_snoc cs (by omega)
    rw [hs, valD_snoc]
    have h1 := ih (cs := cs.take (cs.length - 1)) (by simp; omega) fun c hc => h c (List.mem_of_mem_take hc)
    have h2 := h (cs.getD (cs.length - 1) 0) (by
      rw [List.getD_eq_getElem?_getD, List.getElem?_eq_getElem (by omega)]; exact List.getElem_mem _)
    unfold isD at h2; omega
/-- Characters that are digits, the first not 0: the digits of what they are worth. -/
theorem dg_valD : ∀ (n : Nat) {cs : List Int}, cs.length = n → (∀ c ∈ cs, isD c) → cs.getD 0 0 ≠ 48 → dg (valD cs).toNat = cs.reverse := by
  intro n
  induction n with
  | zero => intro cs hl _ _; have : cs = [] := List.eq_nil_of_length_eq_zero hl; subst this; exact dg_zero
  | succ n ih =>
    intro cs hl h h0
    have hs := list_snoc cs (by omega)
    have h2 := h (cs.getD (cs.length - 1) 0) (by
      rw [List.getD_eq_getElem?_getD, List.getElem?_eq_getElem (by omega)]; exact List.getElem_mem _)
    have hm : ∀ c ∈ cs.take (cs.length - 1), isD c := fun c hc => h c (List.mem_of_mem_take hc)
    have h3 := valD_nonneg _ rfl hm
    have e : valD cs = valD (cs.take (cs.length - 1)) * 10 + (cs.getD (cs.length - 1) 0 - 48) := by
      conv => lhs; rw [hs]
      exact valD_snoc _ _
    unfold isD at h2
    by_cases hn : n = 0
    · subst hn
      have e0 : cs.length - 1 = 0 := by omega
      rw [e0] at e h2
      rw [e0] at hs
      have ht : cs.take 0 = [] := rfl
      rw [ht] at e hs
      have hc : cs = [cs.getD 0 0] := by simpa using hs
      rw [e]
      have hv : valD [] = 0 := rfl
      rw [hv, Int.zero_mul, Int.zero_add, dg_pos (by omega)]
      have e4 : (cs.getD 0 0 - 48).toNat / 10 = 0 := by omega
      have e5 : (48 + (((cs.getD 0 0 - 48).toNat % 10 : Nat) : Int)) = cs.getD 0 0 := by omega
      rw [e4, e5, dg_zero]
      conv => rhs; rw [hc]
      rfl
    · have ih' := ih (cs := cs.take (cs.length - 1)) (by simp; omega) hm (by rw [getD_take _ _ _ (by omega)]; exact h0)
      have hpos : valD (cs.take (cs.length - 1)) ≠ 0 := fun hz => by
        rw [hz] at ih'
        have : (cs.take (cs.length - 1)).reverse = [] := by rw [← ih']; exact dg_zero
        have h6 := congrArg List.length this
        simp at h6; omega
      rw [e, dg_pos (by omega)]
      have e4 : (valD (cs.take (cs.length - 1)) * 10 + (cs.getD (cs.length - 1) 0 - 48)).toNat / 10 = (valD (cs.take (cs.length - 1))).toNat := by omega
      have e5 : (48 + (((valD (cs.take (cs.length - 1)) * 10 + (cs.getD (cs.length - 1) 0 - 48)).toNat % 10 : Nat) : Int)) = cs.getD (cs.length - 1) 0 := by omega
      rw [e4, e5, ih']
      conv => rhs; rw [hs]
      simp
/-- A text and its sign. -/
def negD (cs : List Int) : Bool := decide (cs.getD 0 0 = 45)
def digD (cs : List Int) : List Int := if cs.getD 0 0 = 45 then cs.drop 1 else cs
def numD (cs : List Int) : Int := sg (negD cs) (valD (digD cs))
/-- A text as the text of a number. -/
def canD (cs : List Int) : Prop := txtL (numD cs) = cs
instance (cs : List Int) : Decidable (canD cs) := by unfold canD; infer_instance
theorem canD_len {cs : List Int} {k : Nat} (h : canD cs) (hz : (numD cs).natAbs < 10 ^ k) : (digD cs).length ≤ max 1 k ∧ cs.length ≤ max 1 k + 1 := by
  unfold canD at h
  have hl := congrArg List.length h
  unfold txtL at hl
  have h1 : (dg (numD cs).natAbs).length ≤ k := dg_len.2 hz
  have h2 : (digD cs).length = if cs.getD 0 0 = 45 then cs.length - 1 else cs.length := by unfold digD; split <;> simp
  have h3 : numD cs < 0 → cs.getD 0 0 = 45 := fun hn => by rw [← h]; unfold txtL; simp [hn]
  by_cases hn : numD cs < 0
  · rw [h2, if_pos (h3 hn)]
    rw [if_pos hn, if_neg (by omega)] at hl
    simp at hl; omega
  · rw [if_neg hn] at hl
    have : (digD cs).length ≤ cs.length := by rw [h2]; split <;> omega
    by_cases h0 : numD cs = 0
    · rw [if_pos h0] at hl; simp at hl; omega
    · rw [if_neg h0] at hl; simp at hl; omega
/-- The form that the reference asks for: at least one digit, digits alone, and no 0 ahead. -/
def formD (cs : List Int) : Prop := 0 < (digD cs).length ∧ (∀ c ∈ digD cs, isD c) ∧ ((digD cs).getD 0 0 = 48 → negD cs = false ∧ (digD cs).length = 1)
theorem canD_of_form {cs : List Int} (h : formD cs) : canD cs := by
  obtain ⟨h1, h2, h3⟩ := h
  unfold canD
  by_cases hz : (digD cs).getD 0 0 = 48
  · obtain ⟨h4, h5⟩ := h3 hz
    have hc : ¬ cs.getD 0 0 = 45 := by simpa [negD] using h4
    have hd : digD cs = cs := by unfold digD; rw [if_neg hc]
    rw [hd] at h5 hz
    have hs := list_snoc cs (by omega)
    rw [h5] at hs
    have e : cs = [48] := by rw [← hz]; simpa using hs
    subst e
    rfl
  · have hd := dg_valD _ rfl h2 hz
    have hnn := valD_nonneg _ rfl h2
    have hne : valD (digD cs) ≠ 0 := fun he => by
      rw [he] at hd
      have h6 := congrArg List.length hd
      simp [dg_zero] at h6; omega
    have hab : (numD cs).natAbs = (valD (digD cs)).toNat := by unfold numD sg; split <;> omega
    unfold txtL
    rw [hab, hd]
    by_cases hn : cs.getD 0 0 = 45
    · have e1 : negD cs = true := decide_eq_true hn
      have e2 : numD cs < 0 := by unfold numD; rw [e1]; simp [sg]; omega
      rw [if_pos e2, if_neg (by omega)]
      unfold digD
      rw [if_pos hn, List.reverse_reverse]
      cases cs with
      | nil => simp at hn
      | cons c cs => simp at hn; subst hn; rfl
    · have e1 : negD cs = false := decide_eq_false hn
      have e2 : ¬ numD cs < 0 := by unfold numD; rw [e1]; simp [sg]; omega
      have e3 : numD cs ≠ 0 := by unfold numD; rw [e1]; simpa [sg] using hne
      rw [if_neg e2, if_neg e3]
      unfold digD
      rw [if_neg hn, List.reverse_reverse]
      rfl
theorem txtL_ne (z : Int) : txtL z ≠ [] := by
  unfold txtL
  by_cases h : z = 0
  · subst h; decide
  · rw [if_neg h]
    intro hh
    have := congrArg List.length hh
    have h2 : (dg z.natAbs).length ≠ 0 := fun h0 => by
      have := dg_nil.1 (List.eq_nil_of_length_eq_zero h0)
      omega
    rw [List.length_append, List.length_reverse] at this
    simp only [List.length_nil] at this
    omega
theorem form_of_canD {cs : List Int} (h : canD cs) : formD cs := by
  unfold canD at h
  generalize hz : numD cs = z at h
  subst h
  have hr : ∀ c ∈ (dg z.natAbs).reverse, isD c := fun c hc => dg_rg _ c (by simpa using hc)
  have hlast : ∀ n : Nat, n ≠ 0 → (dg n).reverse.getD 0 0 ≠ 48 := by
    intro n
    induction n using Nat.strongRecOn with
    | _ n ih =>
      intro hn
      rw [dg_pos hn, List.reverse_cons]
      by_cases h1 : n / 10 = 0
      · rw [h1, dg_zero]; simp; omega
      · have h2 := ih (n / 10) (by omega) h1
        have h3 : 0 < (dg (n / 10)).reverse.length := by
          rw [List.length_reverse]
          have := mt dg_nil.1 h1
          cases hd : dg (n / 10) with
          | nil => exact absurd hd this
          | cons a b => simp
        rw [List.getD_eq_getElem?_getD, List.getElem?_append_left h3, ← List.getD_eq_getElem?_getD]
        exact h2
  by_cases h0 : z = 0
  · subst h0
    have e : txtL 0 = [48] := by decide
    rw [e]
    refine ⟨by decide, ?_, by decide⟩
    intro c hc
    have : c = 48 := by simpa [digD] using hc
    subst this; decide
  · have hne : 0 < (dg z.natAbs).reverse.length := by
      rw [List.length_reverse]
      have := mt (dg_nil (n := z.natAbs)).1 (by omega)
      cases hd : dg z.natAbs with
      | nil => exact absurd hd this
      | cons a b => simp
    have hd : digD (txtL z) = (dg z.natAbs).reverse ∧ True := by
      refine ⟨?_, trivial⟩
      unfold digD txtL
      rw [if_neg h0]
      by_cases hn : z < 0
      · simp [hn]
      · rw [if_neg hn, List.nil_append]
        rw [if_neg]
        intro h45
        have := hr ((dg z.natAbs).reverse.getD 0 0) (by
          rw [List.getD_eq_getElem?_getD, List.getElem?_eq_getElem hne]; exact List.getElem_mem _)
        rw [h45] at this
        exact absurd this (by decide)
    unfold formD
    rw [hd.1]
    exact ⟨hne, hr, fun h48 => absurd h48 (hlast _ (by omega))⟩
end Go.Proofs.Ytpnjkjahfklfnaa.Fw
