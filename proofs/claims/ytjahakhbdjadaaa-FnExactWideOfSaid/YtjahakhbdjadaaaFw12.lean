/- Parameters of one cell. -/
import Derived.Test.YtjahakhbdjadaaaFw5
set_option linter.unusedVariables false
namespace Go.Proofs.Ytjahakhbdjadaaa.Fw
open Go Go.RowKit
theorem ok_int {P : Program} {w : World} {r : Reach} {base : Nat} {t : TypeId} {v : Value} {k : IntKind} (ht : P.underlying t = some (.int k)) (h : Value.okWide P w r base t v) : ∃ x : Int, v = .int k x ∧ k.has x := by
  unfold Value.okWide at h
  rw [ht] at h
  simp only at h
  unfold Cell.okWide at h
  rw [ht] at h
  simp only at h
  unfold Cell.ok at h
  rw [ht] at h
  cases v <;> simp only at h
  obtain ⟨rfl, hh⟩ := h
  exact ⟨_, rfl, hh⟩
theorem i64_rg {x : Int} (h : IntKind.i64.has x) : -9223372036854775808 ≤ x ∧ x ≤ 9223372036854775807 := by
  simp [IntKind.has, IntKind.min, IntKind.max, IntKind.signed, IntKind.bits] at h
  omega
end Go.Proofs.Ytjahakhbdjadaaa.Fw
