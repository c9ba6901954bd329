/- Parameters of one cell. -/
import Derived.Test.YtpnjkjahfklfnaaFw5
set_option linter.unusedVariables false
namespace Go.Proofs.Ytpnjkjahfklfnaa.Fw
open Go Go.RowKit
theorem ok_int {P : Program} {w : World} {r : Reach} {base : Nat} {t : TypeId} {v : Value} {k : IntKind} (ht : P.underlying t = some (.int k)) (h : Value.okWide P w r base t v) : ∃ x : Int, v = .int k x ∧ k.has x := by
  unfold Value.okWide at h
  rw [ht] at h
  simp only at h
  unfold Cell.okWide at h
  rw [ht] at h
  simp only at h
  unfold Cell.ok at h
  rw [ht] at h
  cases v <;> simp only at h
  obtain ⟨rfl, hh⟩ := h
  exact ⟨_, rfl, hh⟩
theorem i64_rg {x : Int} (h : IntKind.i64.has x) : -9223372036854775808 ≤ x ∧ x ≤ 9223372036854775807 := by
  simp [IntKind.has, IntKind.min, IntKind.max, IntKind.signed, IntKind.bits] at h
  omega
section
variable {P : Program} {f n : Nat} {R : Ending → World → Prop} {k : List Item} {fr : Fr} {w : World} {ops : Array Oper} {S : World → Prop} {fin : List Nat} {fuel : Nat} {listed : Array Bool}
/-- One of three may come now. -/
theorem aw_three (i j l : Nat) {dst dst2 dst3 : Option Tmp} {op op2 op3 : Op} {ty ty2 ty3 : TypeId} {pos pos2 pos3 : String} {af af2 af3 : Array Edge} {g g2 g3 : Option (Nat × Bool)}
    (hi : ops[i]? = some ⟨dst, op, ty, pos, af, g⟩) (hj : ops[j]? = some ⟨dst2, op2, ty2, pos2, af2, g2⟩) (hl : ops[l]? = some ⟨dst3, op3, ty3, pos3, af3, g3⟩)
    (hr : Region.ready .any ops listed = [i, j, l]) (hg : GY ops n fr g) (hg2 : GY ops n fr g2) (hg3 : GY ops n fr g3)
    (h : OE P n op ty fr w fun v w' => (fin.contains i = true ∨ S w') ∧ AW P f n R k ops S fin fuel (listed.setIfInBounds i true) (putO fr dst v) w')
    (h2 : OE P n op2 ty2 fr w fun v w' => (fin.contains j = true ∨ S w') ∧ AW P f n R k ops S fin fuel (listed.setIfInBounds j true) (putO fr dst2 v) w')
    (h3 : OE P n op3 ty3 fr w fun v w' => (fin.contains l = true ∨ S w') ∧ AW P f n R k ops S fin fuel (listed.setIfInBounds l true) (putO fr dst3 v) w') : AW P f n R k ops S fin (fuel + 1) listed fr w := by
  refine wpAnyJ_all (rs := [i, j, l]) hr (by simp) ?_
  intro x hx
  have hx' : x = i ∨ x = j ∨ x = l := by simpa using hx
  rcases hx' with rfl | rfl | rfl
  · exact wpOp_oe x hi hg (K := fun fr w => (fin.contains x = true ∨ S w) ∧ AW P f n R k ops S fin fuel (listed.setIfInBounds x true) fr w)
      (fun fr w hh => ⟨hh.1.imp (by simp) id, hh.2⟩) h
  · exact wpOp_oe x hj hg2 (K := fun fr w => (fin.contains x = true ∨ S w) ∧ AW P f n R k ops S fin fuel (listed.setIfInBounds x true) fr w)
      (fun fr w hh => ⟨hh.1.imp (by simp) id, hh.2⟩) h2
  · exact wpOp_oe x hl hg3 (K := fun fr w => (fin.contains x = true ∨ S w) ∧ AW P f n R k ops S fin fuel (listed.setIfInBounds x true) fr w)
      (fun fr w hh => ⟨hh.1.imp (by simp) id, hh.2⟩) h3
end
end Go.Proofs.Ytpnjkjahfklfnaa.Fw
