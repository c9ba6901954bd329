/- Answers about ratios in lowest terms: plain mathematics. -/
import Derived.Test.YtpnjkjahfklfnaaMa15
set_option linter.unusedVariables false
namespace Go.Proofs.Ytpnjkjahfklfnaa.Fw
theorem pkz_iff {S S' : Prop} [Decidable S] [Decidable S'] {z : Int} (h : S ↔ S') : pkz S z = pkz S' z := by
  by_cases hs : S
  · rw [pkz_t hs, pkz_t (h.1 hs)]
  · rw [pkz_f hs, pkz_f fun hh => hs (h.2 hh)]
end Go.Proofs.Ytpnjkjahfklfnaa.Fw
