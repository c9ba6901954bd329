/- How points stand and ways turn: plain mathematics. -/
import Derived.Test.YtpnjkjahfklfnaaMa9
set_option linter.unusedVariables false
set_option linter.unusedSimpArgs false
namespace Go.Proofs.Ytpnjkjahfklfnaa.Fw
def sm3 (x y z : Int) : Prop := nbits ((x.natAbs : Nat) : Int).toNat ≤ 80 ∧ nbits ((y.natAbs : Nat) : Int).toNat ≤ 80 ∧ nbits ((z.natAbs : Nat) : Int).toNat ≤ 80
instance (x y z : Int) : Decidable (sm3 x y z) := by unfold sm3; infer_instance
/-- How two points stand: by x, then by y. -/
def pc (x y w x' y' w' : Int) : Int := if sgnI (x * w' - x' * w) ≠ 0 then sgnI (x * w' - x' * w) else sgnI (y * w' - y' * w)
/-- How a way over three points turns. -/
def ori (x y w x' y' w' x'' y'' w'' : Int) : Int := sgnI (x * (y' * w'' - w' * y'') - y * (x' * w'' - w' * x'') + w * (x' * y'' - y' * x''))
theorem sgnI_neg (n : Int) : sgnI (-n) = -sgnI n := by unfold sgnI; grind
theorem sgnI_zero {n : Int} : sgnI n = 0 ↔ n = 0 := by unfold sgnI; grind
theorem sgnI_lt {n : Int} : sgnI n < 0 ↔ n < 0 := by unfold sgnI; grind
theorem sgnI_gt {n : Int} : 0 < sgnI n ↔ 0 < n := by unfold sgnI; grind
theorem sgnI_rg (n : Int) : sgnI n = -1 ∨ sgnI n = 0 ∨ sgnI n = 1 := by unfold sgnI; grind
theorem pc_rg (x y w x' y' w' : Int) : pc x y w x' y' w' = -1 ∨ pc x y w x' y' w' = 0 ∨ pc x y w x' y' w' = 1 := by
  unfold pc; split
  · exact sgnI_rg _
  · exact sgnI_rg _
theorem pc_self (x y w : Int) : pc x y w x y w = 0 := by unfold pc; simp [sgnI]
theorem pc_anti (x y w x' y' w' : Int) : pc x' y' w' x y w = -pc x y w x' y' w' := by
  unfold pc
  have e1 : sgnI (x' * w - x * w') = -sgnI (x * w' - x' * w) := by rw [← sgnI_neg]; congr 1; omega
  have e2 : sgnI (y' * w - y * w') = -sgnI (y * w' - y' * w) := by rw [← sgnI_neg]; congr 1; omega
  rw [e1, e2]; grind
theorem pc_lt {x y w x' y' w' : Int} : pc x y w x' y' w' < 0 ↔ x * w' < x' * w ∨ (x * w' = x' * w ∧ y * w' < y' * w) := by
  have h1 := @sgnI_lt (x * w' - x' * w); have h2 := @sgnI_lt (y * w' - y' * w); have h3 := @sgnI_zero (x * w' - x' * w)
  unfold pc; split <;> omega
theorem pc_zero {x y w x' y' w' : Int} : pc x y w x' y' w' = 0 ↔ x * w' = x' * w ∧ y * w' = y' * w := by
  have h2 := @sgnI_zero (y * w' - y' * w); have h3 := @sgnI_zero (x * w' - x' * w)
  unfold pc; split <;> omega
def pOk (x y w : Int) : Prop := 0 < w ∧ sm3 x y w ∧ gI3 x y w = 1
instance (x y w : Int) : Decidable (pOk x y w) := by unfold pOk; infer_instance
theorem gI3_dvd {x y w t : Int} (h1 : t ∣ x) (h2 : t ∣ y) (h3 : t ∣ w) : t ∣ gI3 x y w := Int.dvd_coe_gcd (Int.dvd_coe_gcd h1 h2) h3
theorem gI_mul (c x y : Int) (hc : 0 ≤ c) : gI (c * x) (c * y) = c * gI x y := by
  unfold gI; rw [Int.gcd_mul_left]
  rw [Int.natCast_mul]; congr 1; omega
theorem w_dvd {x y w x' y' w' : Int} (hx : x * w' = x' * w) (hy : y * w' = y' * w) (h : gI3 x y w = 1) (hw' : 0 ≤ w') : w ∣ w' := by
  have h1 : w ∣ gI3 (w' * x) (w' * y) (w' * w) := gI3_dvd ⟨x', by grind⟩ ⟨y', by grind⟩ ⟨w', by grind⟩
  have h2 : gI3 (w' * x) (w' * y) (w' * w) = w' * gI3 x y w := by unfold gI3; rw [gI_mul _ _ _ hw', gI_mul _ _ _ hw']
  rw [h2, h, Int.mul_one] at h1
  exact h1
theorem pc_eq {x y w x' y' w' : Int} (h : pOk x y w) (h' : pOk x' y' w') (hz : pc x y w x' y' w' = 0) : x = x' ∧ y = y' ∧ w = w' := by
  obtain ⟨hx, hy⟩ := pc_zero.1 hz
  have h1 := w_dvd hx hy h.2.2 (Int.le_of_lt h'.1)
  have h2 := w_dvd hx.symm hy.symm h'.2.2 (Int.le_of_lt h.1)
  have hw : w = w' := by
    have := Int.le_of_dvd h'.1 h1; have := Int.le_of_dvd h.1 h2; omega
  subst hw
  have hp : w ≠ 0 := Int.ne_of_gt h.1
  exact ⟨Int.eq_of_mul_eq_mul_right hp hx, Int.eq_of_mul_eq_mul_right hp hy, rfl⟩
theorem frac_lt_trans {a p b q c r : Int} (hp : 0 < p) (hq : 0 < q) (hr : 0 < r) (h1 : a * q ≤ b * p) (h2 : b * r ≤ c * q) : a * r ≤ c * p ∧ (a * q < b * p ∨ b * r < c * q → a * r < c * p) := by
  have e1 : a * r * q ≤ b * p * r := by have := Int.mul_le_mul_of_nonneg_right h1 (Int.le_of_lt hr); grind
  have e2 : b * p * r ≤ c * p * q := by have := Int.mul_le_mul_of_nonneg_right h2 (Int.le_of_lt hp); grind
  refine ⟨Int.le_of_mul_le_mul_right (Int.le_trans e1 e2) hq, fun h => ?_⟩
  refine Int.lt_of_mul_lt_mul_right (a := q) ?_ (Int.le_of_lt hq)
  rcases h with h | h
  · have : a * r * q < b * p * r := by have := Int.mul_lt_mul_of_pos_right h hr; grind
    omega
  · have : b * p * r < c * p * q := by have := Int.mul_lt_mul_of_pos_right h hp; grind
    omega
theorem pc_trans {x y w x' y' w' x'' y'' w'' : Int} (hw : 0 < w) (hw' : 0 < w') (hw'' : 0 < w'') (h1 : pc x y w x' y' w' < 0) (h2 : pc x' y' w' x'' y'' w'' < 0) : pc x y w x'' y'' w'' < 0 := by
  rw [pc_lt] at *
  rcases h1 with h1 | ⟨h1, h3⟩
  · rcases h2 with h2 | ⟨h2, h4⟩
    · exact .inl ((frac_lt_trans hw hw' hw'' (Int.le_of_lt h1) (Int.le_of_lt h2)).2 (.inl h1))
    · exact .inl ((frac_lt_trans hw hw' hw'' (Int.le_of_lt h1) (Int.le_of_eq h2)).2 (.inl h1))
  · rcases h2 with h2 | ⟨h2, h4⟩
    · exact .inl ((frac_lt_trans hw hw' hw'' (Int.le_of_eq h1) (Int.le_of_lt h2)).2 (.inr h2))
    · have a1 := (frac_lt_trans hw hw' hw'' (Int.le_of_eq h1) (Int.le_of_eq h2)).1
      have a2 := (frac_lt_trans hw'' hw' hw (Int.le_of_eq h2.symm) (Int.le_of_eq h1.symm)).1
      exact .inr ⟨by omega, (frac_lt_trans hw hw' hw'' (Int.le_of_lt h3) (Int.le_of_lt h4)).2 (.inl h3)⟩
theorem ori_swap (x y w x' y' w' x'' y'' w'' : Int) : ori x' y' w' x y w x'' y'' w'' = -ori x y w x' y' w' x'' y'' w'' := by
  unfold ori; rw [← sgnI_neg]; congr 1; grind
theorem ori_l (x y w x' y' w' : Int) : ori x y w x' y' w' x y w = 0 := by unfold ori; rw [sgnI_zero]; grind
theorem ori_r (x y w x' y' w' : Int) : ori x y w x' y' w' x' y' w' = 0 := by unfold ori; rw [sgnI_zero]; grind
theorem ori_turn (ax ay aw bx b_y bw cx cy cw : Int) : sgnI ((b_y * cw - cy * bw) * ax + (bw * cx - cw * bx) * ay + (bx * cy - cx * b_y) * aw) = ori ax ay aw bx b_y bw cx cy cw := by
  unfold ori; congr 1; grind
/-- A point between two, as the reference says it. -/
def btw (x y w x' y' w' x'' y'' w'' : Int) : Prop :=
  (0 < pc x y w x' y' w' ∧ pc x' y' w' x'' y'' w'' ≤ 0 ∧ pc x'' y'' w'' x y w ≤ 0 ∧ ori x' y' w' x y w x'' y'' w'' = 0) ∨
  (¬ 0 < pc x y w x' y' w' ∧ pc x y w x'' y'' w'' ≤ 0 ∧ pc x'' y'' w'' x' y' w' ≤ 0 ∧ ori x y w x' y' w' x'' y'' w'' = 0)
instance (x y w x' y' w' x'' y'' w'' : Int) : Decidable (btw x y w x' y' w' x'' y'' w'') := by unfold btw; infer_instance
theorem btw_p {x y w x' y' w' : Int} : btw x y w x' y' w' x y w := by
  unfold btw
  have h1 := pc_anti x y w x' y' w'; have h2 := pc_self x y w; have h3 := ori_r x' y' w' x y w; have h4 := ori_l x y w x' y' w'
  omega
theorem btw_q {x y w x' y' w' : Int} : btw x y w x' y' w' x' y' w' := by
  unfold btw
  have h1 := pc_anti x y w x' y' w'; have h2 := pc_self x' y' w'; have h3 := ori_l x' y' w' x y w; have h4 := ori_r x y w x' y' w'
  omega
/-- .. and as the program says it. -/
theorem btw_iff {x y w x' y' w' x'' y'' w'' : Int} (h : pOk x y w) (h' : pOk x' y' w') (h'' : pOk x'' y'' w'') (n1 : ¬ (x = x'' ∧ y = y'' ∧ w = w'')) (n2 : ¬ (x' = x'' ∧ y' = y'' ∧ w' = w'')) :
    btw x y w x' y' w' x'' y'' w'' ↔ (0 < pc x y w x'' y'' w'' * pc x'' y'' w'' x' y' w' ∧ ori x y w x' y' w' x'' y'' w'' = 0) := by
  have z1 : pc x y w x'' y'' w'' ≠ 0 := fun hz => n1 (pc_eq h h'' hz)
  have z2 : pc x'' y'' w'' x' y' w' ≠ 0 := fun hz => n2 (by have := pc_eq h'' h' hz; omega)
  have a1 := pc_anti x y w x'' y'' w''; have a2 := pc_anti x'' y'' w'' x' y' w'; have a3 := pc_anti x y w x' y' w'
  have t1 := @pc_trans x y w x'' y'' w'' x' y' w' h.1 h''.1 h'.1
  have t2 := @pc_trans x' y' w' x'' y'' w'' x y w h'.1 h''.1 h.1
  have o := ori_swap x y w x' y' w' x'' y'' w''
  unfold btw
  have g1 := pc_rg x y w x'' y'' w''; have g2 := pc_rg x'' y'' w'' x' y' w'
  clear n1 n2 h h' h''
  rw [a1, a2, a3] at *
  generalize pc x y w x'' y'' w'' = a at *
  generalize pc x'' y'' w'' x' y' w' = b at *
  generalize pc x y w x' y' w' = c at *
  rw [o]
  generalize ori x y w x' y' w' x'' y'' w'' = d at *
  rcases g1 with e | e | e <;> rcases g2 with e2 | e2 | e2 <;> subst e <;> subst e2 <;> omega
/-! ### Segments: their ends are whole -/
def sideV (ax ay bx b_y x y w : Int) : Int := sgnI ((bx - ax) * (y - ay * w) - (b_y - ay) * (x - ax * w))
theorem side_ori (ax ay bx b_y x y w : Int) : ori ax ay 1 bx b_y 1 x y w = sideV ax ay bx b_y x y w := by unfold ori sideV; congr 1; grind
end Go.Proofs.Ytpnjkjahfklfnaa.Fw
