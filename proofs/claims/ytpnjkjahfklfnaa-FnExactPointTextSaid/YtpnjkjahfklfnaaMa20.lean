/- Texts of points: plain mathematics. -/
import Derived.Test.YtpnjkjahfklfnaaMa19
import Derived.Test.YtpnjkjahfklfnaaMa17
set_option linter.unusedVariables false
set_option linter.unusedSimpArgs false
namespace Go.Proofs.Ytpnjkjahfklfnaa.Fw
open Go Go.RowKit
def pTxt (x y u : Int) : List Int := if pOk x y u then (if u = 1 then (txtL x ++ [44]) ++ txtL y else (((txtL x ++ [44]) ++ txtL y) ++ [47]) ++ txtL u) else []
theorem okC_pTxt (x y u : Int) : okW 256 (pTxt x y u) := by
  have h : okW 256 ((txtL x ++ [44]) ++ txtL y) := okC_app (okC_app (okC_txt x) (okC_one ⟨by decide, by decide⟩)) (okC_txt y)
  unfold pTxt
  split
  · split
    · exact h
    · exact okC_app (okC_app h (okC_one ⟨by decide, by decide⟩)) (okC_txt u)
  · exact okC_nil
end Go.Proofs.Ytpnjkjahfklfnaa.Fw
