/- Answers about ratios: plain mathematics. -/
import Derived.Test.YtpnjkjahfklfnaaMa14
set_option linter.unusedVariables false
namespace Go.Proofs.Ytpnjkjahfklfnaa.Fw
theorem wq3 {S : Prop} [Decidable S] (h : S) {z : Int} : wv3 z = wv3 (pkz (S ∧ fits z) z) := by
  by_cases hf : fits z
  · rw [pkz_t ⟨h, hf⟩]
  · rw [pkz_f fun hh => hf hh.2, nf3 hf, w0.1]
theorem wq2 {S : Prop} [Decidable S] (h : S) {z : Int} : wv2 z = wv2 (pkz (S ∧ fits z) z) := by
  by_cases hf : fits z
  · rw [pkz_t ⟨h, hf⟩]
  · rw [pkz_f fun hh => hf hh.2, nf2 hf, w0.2.1]
theorem wq1 {S : Prop} [Decidable S] (h : S) {z : Int} : wv1 z = wv1 (pkz (S ∧ fits z) z) := by
  by_cases hf : fits z
  · rw [pkz_t ⟨h, hf⟩]
  · rw [pkz_f fun hh => hf hh.2, nf1 hf, w0.2.2.1]
theorem wq0 {S : Prop} [Decidable S] (h : S) {z : Int} : wv0 z = wv0 (pkz (S ∧ fits z) z) := by
  by_cases hf : fits z
  · rw [pkz_t ⟨h, hf⟩]
  · rw [pkz_f fun hh => hf hh.2, nf0 hf, w0.2.2.2]
def rCmp (x y p q : Int) : Int := if rOk x y ∧ rOk p q then sgnI (x * q - p * y) else 0
end Go.Proofs.Ytpnjkjahfklfnaa.Fw
