/- Calls of functions without a body: bits.Add64, bits.Sub64. -/
import Derived.Test.YtpnjkjahfklfnaaFw8
import Derived.Test.YtpnjkjahfklfnaaMa2
set_option linter.unusedVariables false
set_option linter.unusedSimpArgs false
namespace Go.Proofs.Ytpnjkjahfklfnaa.Fw
open Go Go.RowKit
section
variable {P : Program} {n : Nat} {fr : Fr} {w : World} {ty : TypeId}
theorem dv_ext {g : Nat} {fn : Func} {e : Array Value → Sem Value} {args : Array Operand} {tys : Array TypeId} {vs : List Value} {v : Value} (hf : P.funcs[g]? = some fn) (hn : (fn.name == "runtime.NumGoroutine") = false) (hb : fn.body.isNone = true)
    (h1 : (Extern.findNext fn).isNone = true) (h2 : Extern.find fn = some e) (ha : args.map (actOf n fr).eval = vs.toArray) (hr : ∀ w, (e vs.toArray).run P w = .ok v w) :
    DV P n (.call { callee := .value (.func g), args := args, argTypes := tys }) ty fr w v := fun _ _ _ _ => by
  have hev : (actOf n fr).eval (.func g) = .func (.func g) #[] #[] := rfl
  have hnx : Extern.findNext fn = none := by simpa using h1
  have hb' : fn.body = none := by simpa using hb
  have hn' : fn.name ≠ "runtime.NumGoroutine" := by simpa using hn
  simp [execOp, resolve, hev, Deferred.ofValue, invoke, callFunc, hf, hn', hb', hnx, h2, ha, hr]
end
theorem run_addE {P : Program} (x y c : Int) (hx : 0 ≤ x) (hy : 0 ≤ y) (hc : 0 ≤ c ∧ c ≤ 1) (w : World) :
    (add64Entry [.int .u64 x, .int .u64 y, .int .u64 c].toArray).run P w = .ok (.tuple #[.int .u64 ((x + y + c) % 18446744073709551616), .int .u64 ((x + y + c) / 18446744073709551616)]) w := run_add64 x y c hx hy hc.1 hc.2 w
def subEntry : Array Value → Sem Value := fun args => do
  let (x, y, b) ← Extern.MathBitsCarry.three "Sub64" args
  pure (Extern.MathBitsCarry.pair ((x + Extern.MathBitsCarry.m64 - y - b) % Extern.MathBitsCarry.m64) (if x < y + b then 1 else 0))
theorem run_subE {P : Program} (x y b : Int) (hx : 0 ≤ x) (hy : 0 ≤ y) (hyl : y < 18446744073709551616) (hb : 0 ≤ b ∧ b ≤ 1) (w : World) :
    (subEntry [.int .u64 x, .int .u64 y, .int .u64 b].toArray).run P w = .ok (.tuple #[.int .u64 ((x - y - b) % 18446744073709551616), .int .u64 (if x < y + b then 1 else 0)]) w := by
  obtain ⟨X, rfl⟩ := Int.eq_ofNat_of_zero_le hx
  obtain ⟨Y, rfl⟩ := Int.eq_ofNat_of_zero_le hy
  obtain ⟨k, rfl⟩ := Int.eq_ofNat_of_zero_le hb.1
  have key : (subEntry [.int .u64 (X : Int), .int .u64 (Y : Int), .int .u64 (k : Int)].toArray).run P w =
      .ok (.tuple #[.int .u64 (((X + 18446744073709551616 - Y - k) % 18446744073709551616 : Nat) : Int), .int .u64 ((if X < Y + k then 1 else 0 : Nat) : Int)]) w := by
    have : k = 0 ∨ k = 1 := by omega
    rcases this with rfl | rfl <;> rfl
  rw [key]
  have e1 : (((X + 18446744073709551616 - Y - k) % 18446744073709551616 : Nat) : Int) = ((X : Int) - Y - k) % 18446744073709551616 := by omega
  have e2 : ((if X < Y + k then 1 else 0 : Nat) : Int) = if (X : Int) < Y + k then 1 else 0 := by
    by_cases h : X < Y + k
    · rw [if_pos h, if_pos (by omega)]; rfl
    · rw [if_neg h, if_neg (by omega)]; rfl
  rw [e1, e2]
def cmpR (r x y : Int) : Prop := (r < 0 ↔ x < y) ∧ (r = 0 ↔ x = y)
theorem cmpR.ge {r x y : Int} (h : cmpR r x y) : 0 ≤ r ↔ y ≤ x := by unfold cmpR at h; omega
theorem cmpR.eq {r x y : Int} (h : cmpR r x y) : r = 0 ↔ x = y := h.2
theorem sz_sub {x y : Int} {s : Nat} (hx : x < 2 ^ s) (h : 0 ≤ y) : x - y < 2 ^ s := by omega
theorem len_le {xs ys : List Int} (hx : okW (2 ^ 64) xs) (hy : okW (2 ^ 64) ys) (cy : canon ys) (hle : valB (2 ^ 64) ys ≤ valB (2 ^ 64) xs) : ys.length ≤ xs.length := by
  rcases Nat.lt_or_ge xs.length ys.length with h | h
  · have := lt_of_len (B := 2 ^ 64) (by decide) hx hy cy h
    omega
  · exact h
def sgnI (n : Int) : Int := if n < 0 then -1 else if 0 < n then 1 else 0
theorem trimL_sz {m s : Nat} {xs : List Int} (h : okW (2 ^ m) xs) (hl : m * xs.length ≤ s) : valB (2 ^ m) (trimL xs) < 2 ^ s := by
  rw [trimL_val]
  have h1 := valB_sz h rfl
  have h2 := pow_le_of (B := 2) (by decide) hl
  omega
theorem cmp_same {B : Int} {xs ys : List Int} (h : xs = ys) : cmpR 0 (valB B xs) (valB B ys) := by subst h; exact ⟨by simp, by simp⟩
end Go.Proofs.Ytpnjkjahfklfnaa.Fw
