/- Answers about points: plain mathematics. -/
import Derived.Test.YtpnjkjahfklfnaaMa16
import Derived.Test.YtpnjkjahfklfnaaFw14
set_option linter.unusedVariables false
set_option linter.unusedSimpArgs false
namespace Go.Proofs.Ytpnjkjahfklfnaa.Fw
open Go Go.RowKit
theorem nb_toNat (x : Int) : nbits ((x.natAbs : Nat) : Int).toNat = nbits x.natAbs := by rw [Int.toNat_natCast]
theorem sm3_iff {x y z : Int} : sm3 x y z ↔ nbits x.natAbs ≤ 80 ∧ nbits y.natAbs ≤ 80 ∧ nbits z.natAbs ≤ 80 := by unfold sm3; rw [nb_toNat, nb_toNat, nb_toNat]
theorem fits80 {x : Int} (h : nbits x.natAbs ≤ 80) : fits x := by
  rw [nbits_le_iff] at h
  have e : (2 : Nat) ^ 80 = 1208925819614629174706176 := by decide
  unfold fits; omega
theorem sm3_fx {x y z : Int} (h : sm3 x y z) : fits x := fits80 (sm3_iff.1 h).1
theorem sm3_fy {x y z : Int} (h : sm3 x y z) : fits y := fits80 (sm3_iff.1 h).2.1
theorem sm3_fz {x y z : Int} (h : sm3 x y z) : fits z := fits80 (sm3_iff.1 h).2.2
def pFit (x y u : Int) : Prop := u ≠ 0 ∧ sm3 (pPt x y u x) (pPt x y u y) (pPt x y u u)
instance (x y u : Int) : Decidable (pFit x y u) := by unfold pFit; infer_instance
theorem mx3 {a b c : Nat} : mx (mx (a : Int) (b : Int)) (c : Int) ≤ 80 ↔ a ≤ 80 ∧ b ≤ 80 ∧ c ≤ 80 := by unfold mx; grind
theorem mx3' {a b c : Nat} : 80 < mx (mx (a : Int) (b : Int)) (c : Int) ↔ ¬ (a ≤ 80 ∧ b ≤ 80 ∧ c ≤ 80) := by rw [← mx3]; omega
theorem wl3_eq {x y u p q r : Int} (hx : fits x) (hy : fits y) (hu : fits u) (hp : fits p) (hq : fits q) (hr : fits r) :
    ([wv3 x, wv2 x, wv1 x, wv0 x, wv3 y, wv2 y, wv1 y, wv0 y, wv3 u, wv2 u, wv1 u, wv0 u] : List Int) = [wv3 p, wv2 p, wv1 p, wv0 p, wv3 q, wv2 q, wv1 q, wv0 q, wv3 r, wv2 r, wv1 r, wv0 r] ↔ x = p ∧ y = q ∧ u = r := by
  have h1 := wv_eq hx hp; have h2 := wv_eq hy hq; have h3 := wv_eq hu hr
  simp only [List.cons.injEq, and_true]
  constructor
  · rintro ⟨a, b, c, d, e, f, g, h, i, j, k, l⟩
    exact ⟨h1.1 ⟨a, b, c, d⟩, h2.1 ⟨e, f, g, h⟩, h3.1 ⟨i, j, k, l⟩⟩
  · rintro ⟨rfl, rfl, rfl⟩
    simp
def pCmp (x y u p q r : Int) : Int := if pOk x y u ∧ pOk p q r then pc x y u p q r else 0
def oCmp (x y u p q r d e t : Int) : Int := if pOk x y u ∧ pOk p q r ∧ pOk d e t then ori x y u p q r d e t else 0
section
variable {P : Program} {n : Nat} {fr : Fr} {w : World} {ty : TypeId}
theorem dv_max3 {x y z : Operand} {k k' k'' : IntKind} {a b c : Int} {tys : Array TypeId} (hx : EV n fr x (.int k a)) (hy : EV n fr y (.int k' b)) (hz : EV n fr z (.int k'' c)) : DV P n (.call { callee := .builtin .max, args := #[x, y, z], argTypes := tys }) ty fr w (.int k (mx (mx a b) c)) := fun _ _ _ _ => by
  unfold EV at hx hy hz
  simp [execOp, resolve, invoke, builtin, hx, hy, hz, Builtin.max_, Builtin.max2, mx]
end
end Go.Proofs.Ytpnjkjahfklfnaa.Fw
