/- Walks and plain mathematics, packed by a program of this session: declarations that the rows reach. -/
import Derived.Test.YtfmkadgjoechnaaPaa
set_option linter.unusedVariables false
set_option linter.unusedSimpArgs false
namespace Go.Proofs.Ytfmkadgjoechnaa.Fw
open Go Go.RowKit
instance (L : List Int) : Decidable (formD L) := by unfold formD; infer_instance
abbrev fz (z : Int) : Int := pkz (fits z) z
abbrev rdS (L : List Int) : Prop := canD L ∧ fits (numD L)
abbrev rdZ (L : List Int) : Int := pkz (rdS L) (numD L)
theorem rdZ_f (L : List Int) : fits (rdZ L) := fits_pkz fun h => h.2
theorem okD {L D : List Int} (h : digD L = D) (hL : okW 256 L) : okW 256 D := h ▸ digD_ok hL
theorem getD0 {L : List Int} (h : ¬ (0 : Int) < (L.length : Int)) : ¬ L.getD 0 0 = 45 := by
  have h0 : L = [] := List.eq_nil_of_length_eq_zero (by omega)
  subst h0; decide
theorem formD_iff {L D : List Int} {ng : Bool} (hD : digD L = D) (hn : negD L = ng) : formD L ↔ 0 < D.length ∧ (∀ c ∈ D, isD c) ∧ (D.getD 0 0 = 48 → ng = false ∧ D.length = 1) := by
  subst hD; subst hn; exact Iff.rfl
theorem not_formD {L D : List Int} {i : Nat} (hD : digD L = D) (hi : i < D.length) (h : ¬ isD (D.getD i 0)) : ¬ formD L := fun hh => not_isD hi h (hD ▸ hh.2.1)
theorem numD_of {L D : List Int} {ng : Bool} {i : Nat} (hD : digD L = D) (hn : negD L = ng) (hi : D.length ≤ i) (hdg : ∀ c ∈ D.take i, isD c) : sg ng ((valD (D.take i)).natAbs : Int) = numD L ∧ ∀ c ∈ D, isD c := by
  rw [List.take_of_length_le hi] at hdg ⊢
  have h0 := valD_nonneg _ rfl hdg
  refine ⟨?_, hdg⟩
  unfold numD; rw [hD, hn]
  congr 1; omega
theorem numD_of2 {L D : List Int} {ng : Bool} {i : Nat} (hD : digD L = D) (hn : negD L = ng) (hi : D.length ≤ i) : sg ng (valD (D.take i)) = numD L := by
  rw [List.take_of_length_le hi]
  unfold numD; rw [hD, hn]
end Go.Proofs.Ytfmkadgjoechnaa.Fw
set_option linter.unusedVariables false
namespace Go.Proofs.Ytfmkadgjoechnaa.Fw
open Go Go.RowKit
theorem ok_str {P : Program} {w : World} {r : Reach} {base : Nat} {t : TypeId} {v : Value} (ht : P.underlying t = some .string) (h : Value.okWide P w r base t v) : ∃ s : ByteArray, v = .string s ∧ (s.size : Int) ≤ IntKind.i64.max := by
  unfold Value.okWide at h
  rw [ht] at h
  simp only at h
  unfold Cell.okWide at h
  rw [ht] at h
  simp only at h
  unfold Cell.ok at h
  rw [ht] at h
  cases v <;> simp only at h
  exact ⟨_, rfl, h⟩
end Go.Proofs.Ytfmkadgjoechnaa.Fw
