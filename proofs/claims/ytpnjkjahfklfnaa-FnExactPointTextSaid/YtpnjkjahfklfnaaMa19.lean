/- Texts of ratios: plain mathematics. -/
import Derived.Test.YtpnjkjahfklfnaaMa18
import Derived.Test.YtpnjkjahfklfnaaMa15
set_option linter.unusedVariables false
set_option linter.unusedSimpArgs false
namespace Go.Proofs.Ytpnjkjahfklfnaa.Fw
open Go Go.RowKit
def rTxt (x y : Int) : List Int := if rOk x y then (if y = 1 then txtL x else (txtL x ++ [47]) ++ txtL y) else []
theorem okC_app {L M : List Int} (h : okW 256 L) (h2 : okW 256 M) : okW 256 (L ++ M) := fun c hc => (List.mem_append.1 hc).elim (h c) (h2 c)
theorem okC_one {c : Int} (h : 0 ≤ c ∧ c < 256) : okW 256 [c] := fun d hd => by
  have : d = c := by simpa using hd
  subst this; exact h
theorem okC_nil : okW 256 [] := fun d hd => by cases hd
theorem okC_rTxt (x y : Int) : okW 256 (rTxt x y) := by
  unfold rTxt
  split
  · split
    · exact okC_txt x
    · exact okC_app (okC_app (okC_txt x) (okC_one ⟨by decide, by decide⟩)) (okC_txt y)
  · exact okC_nil
end Go.Proofs.Ytpnjkjahfklfnaa.Fw
