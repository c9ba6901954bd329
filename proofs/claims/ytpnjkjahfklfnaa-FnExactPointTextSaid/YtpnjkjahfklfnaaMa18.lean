/- A number by ten, from the top: plain mathematics. -/
import Derived.Test.YtpnjkjahfklfnaaFw17
set_option linter.unusedVariables false
set_option linter.unusedSimpArgs false
namespace Go.Proofs.Ytpnjkjahfklfnaa.Fw
open Go Go.RowKit
theorem drop_set_pred (L : List Int) (j : Nat) (q : Int) (hj : 0 < j) (hl : j ≤ L.length) : (L.set (j - 1) q).drop (j - 1) = q :: L.drop j := by
  have h1 : j - 1 < (L.set (j - 1) q).length := by simp; omega
  rw [List.drop_eq_getElem_cons h1, List.getElem_set_self, show j - 1 + 1 = j by omega, List.drop_set_of_lt (by omega)]
theorem drop_pred (L : List Int) (j : Nat) (hj : 0 < j) (hl : j ≤ L.length) : L.drop (j - 1) = L.getD (j - 1) 0 :: L.drop j := by
  have h1 : j - 1 < L.length := by omega
  rw [List.drop_eq_getElem_cons h1, show j - 1 + 1 = j by omega]
  simp [List.getD_eq_getElem?_getD, h1]
theorem ten_step {xs L : List Int} {j : Nat} {r : Int} (hj : 0 < j) (hjl : j ≤ xs.length) (hLl : L.length = xs.length) (hL : valB (2 ^ 32) (L.drop j) = valB (2 ^ 32) (xs.drop j) / 10) (hr : r = valB (2 ^ 32) (xs.drop j) % 10) :
    valB (2 ^ 32) ((L.set (j - 1) ((xs.getD (j - 1) 0 + r * 4294967296) / 10)).drop (j - 1)) = valB (2 ^ 32) (xs.drop (j - 1)) / 10 ∧ (xs.getD (j - 1) 0 + r * 4294967296) % 10 = valB (2 ^ 32) (xs.drop (j - 1)) % 10 := by
  rw [drop_set_pred L j _ hj (by omega), drop_pred xs j hj hjl]
  show _ + (2 ^ 32 : Int) * valB (2 ^ 32) (L.drop j) = (_ + (2 ^ 32 : Int) * valB (2 ^ 32) (xs.drop j)) / 10 ∧ _ = (_ + (2 ^ 32 : Int) * valB (2 ^ 32) (xs.drop j)) % 10
  rw [show (2 ^ 32 : Int) = 4294967296 from by decide] at *
  rw [hL]
  generalize valB 4294967296 (xs.drop j) = V at *
  omega
theorem sg_false {x : Int} : sg false x = x := rfl
theorem txt_top {z : Int} {M : List Int} (h : M = (dg z.natAbs).reverse) (hz : z ≠ 0) : (if z < 0 then [45] else []) ++ M = txtL z := by unfold txtL; rw [if_neg hz, h]
end Go.Proofs.Ytpnjkjahfklfnaa.Fw
