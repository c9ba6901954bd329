/- Walks and plain mathematics, packed by a program of this session: declarations that the rows reach. -/
import Derived.Test.YtmbpomcbdopgnaaPba
set_option linter.unusedVariables false
set_option linter.unusedSimpArgs false
namespace Go.Proofs.Ytmbpomcbdopgnaa.Fw
theorem sgn_mul {a b : Int} : sgnI a * sgnI b ≤ 0 ↔ ¬ (0 < a ∧ 0 < b) ∧ ¬ (a < 0 ∧ b < 0) := by
  have h1 := @sgnI_gt a; have h2 := @sgnI_lt a; have h3 := @sgnI_zero a; have h4 := sgnI_rg a
  have g1 := @sgnI_gt b; have g2 := @sgnI_lt b; have g3 := @sgnI_zero b; have g4 := sgnI_rg b
  have ha : sgnI a = -1 ∨ sgnI a = 0 ∨ sgnI a = 1 := by omega
  have hb : sgnI b = -1 ∨ sgnI b = 0 ∨ sgnI b = 1 := by omega
  rcases ha with ha | ha | ha <;> rcases hb with hb | hb | hb <;> rw [ha, hb] <;> omega
def loS (ax ay cx cy p q : Int) : Int := if 0 < cmpS cx cy ax ay then q else p
def hiS (bx b_y dx dy p q : Int) : Int := if cmpS dx dy bx b_y < 0 then q else p
def mtS (ax ay bx b_y cx cy dx dy : Int) : Prop := mx ax cx ≤ mn bx dx ∧ mx (mn ay b_y) (mn cy dy) ≤ mn (mx ay b_y) (mx cy dy) ∧
  (if crossI ax ay bx b_y cx cy = 0 ∧ crossI ax ay bx b_y dx dy = 0 then cmpS (loS ax ay cx cy ax cx) (loS ax ay cx cy ay cy) (hiS bx b_y dx dy bx dx) (hiS bx b_y dx dy b_y dy) ≤ 0
   else sgnI (crossI ax ay bx b_y cx cy) * sgnI (crossI ax ay bx b_y dx dy) ≤ 0 ∧ sgnI (crossI cx cy dx dy ax ay) * sgnI (crossI cx cy dx dy bx b_y) ≤ 0)
theorem cmpS_le {ax ay bx b_y : Int} : cmpS ax ay bx b_y ≤ 0 ↔ ¬ spotLt bx b_y ax ay := by
  unfold cmpS
  by_cases h : ax = bx ∧ ay = b_y
  · rw [if_pos h]; unfold spotLt; omega
  · rw [if_neg h]
    by_cases hl : spotLt ax ay bx b_y
    · rw [if_pos hl]; unfold spotLt at *; omega
    · rw [if_neg hl]; unfold spotLt at *; omega
theorem lo_eq {ax ay cx cy p q : Int} : loS ax ay cx cy p q = if spotLt ax ay cx cy then q else p := by
  have := @cmpS_le cx cy ax ay
  unfold loS
  by_cases h : spotLt ax ay cx cy
  · rw [if_pos h, if_pos (by have := mt this.1 (fun hh => hh h); omega)]
  · rw [if_neg h, if_neg (by have := this.2 h; omega)]
theorem hi_eq {bx b_y dx dy p q : Int} : hiS bx b_y dx dy p q = if spotLt dx dy bx b_y then q else p := by
  unfold hiS
  by_cases h : spotLt dx dy bx b_y
  · rw [if_pos h, if_pos (by unfold cmpS; have h2 := h; unfold spotLt at h2; rw [if_neg (by omega), if_pos h]; decide)]
  · rw [if_neg h, if_neg (by unfold cmpS; rw [if_neg h]; split <;> decide)]
theorem mx_le {a b c : Int} : mx a b ≤ c ↔ a ≤ c ∧ b ≤ c := by unfold mx; split <;> omega
theorem le_mn {a b c : Int} : c ≤ mn a b ↔ c ≤ a ∧ c ≤ b := by unfold mn; split <;> omega
theorem mul_pos_eq {a b : Int} (hb : 0 < b) (h : a * b = 0) : a = 0 := by
  rcases Int.mul_eq_zero.1 h with h | h
  · exact h
  · omega
theorem lv_iff {ax ay bx b_y lx hx m : Int} (hs : spotLt ax ay bx b_y) (hl : lx < hx) : mtS ax ay bx b_y lx m hx m ↔ lvM ax ay bx b_y lx hx m := by
  have hab : ax ≤ bx := by unfold spotLt at hs; omega
  have e3 : crs = crossI := rfl
  have ed : crossI ax ay bx b_y hx m = crossI ax ay bx b_y lx m - (b_y - ay) * (hx - lx) := crs_x ax ay bx b_y lx hx m
  have e1 : crossI ax ay bx b_y lx m = (bx - ax) * (m - ay) - (b_y - ay) * (lx - ax) := rfl
  have c1 : crossI lx m hx m ax ay = (hx - lx) * (ay - m) := by unfold crossI; rw [show m - m = 0 by omega, Int.zero_mul]; omega
  have c2 : crossI lx m hx m bx b_y = (hx - lx) * (b_y - m) := by unfold crossI; rw [show m - m = 0 by omega, Int.zero_mul]; omega
  unfold mtS lvM
  rw [e3]; simp only [mx_le, le_mn, mn_le, le_mx]
  by_cases h0 : crossI ax ay bx b_y lx m = 0 ∧ crossI ax ay bx b_y hx m = 0
  · rw [if_pos h0, cmpS_le, lo_eq, lo_eq, hi_eq, hi_eq]
    have hy : b_y - ay = 0 := mul_pos_eq (show 0 < hx - lx by omega) (by omega)
    have hxx : 0 < bx - ax := by unfold spotLt at hs; omega
    have hm : m - ay = 0 := by
      rw [hy, Int.zero_mul] at e1
      exact mul_pos_eq hxx (by rw [Int.mul_comm]; omega)
    by_cases h1 : spotLt ax ay lx m <;> by_cases h2 : spotLt hx m bx b_y
    · rw [if_pos h1, if_pos h1, if_pos h2, if_pos h2]; unfold spotLt at *; omega
    · rw [if_pos h1, if_pos h1, if_neg h2, if_neg h2]; unfold spotLt at *; omega
    · rw [if_neg h1, if_neg h1, if_pos h2, if_pos h2]; unfold spotLt at *; omega
    · rw [if_neg h1, if_neg h1, if_neg h2, if_neg h2]; unfold spotLt at *; omega
  · rw [if_neg h0, sgn_mul, sgn_mul, c1, c2]
    constructor
    · intro h; omega
    · intro h
      refine ⟨by omega, by omega, ⟨by omega, by omega⟩, ?_, ?_⟩
      · rintro ⟨q1, q2⟩
        have r1 : m < ay := by
          rcases Int.lt_or_le m ay with h | h
          · exact h
          · have := pn (show 0 ≤ hx - lx by omega) (show ay - m ≤ 0 by omega); omega
        have r2 : m < b_y := by
          rcases Int.lt_or_le m b_y with h | h
          · exact h
          · have := pn (show 0 ≤ hx - lx by omega) (show b_y - m ≤ 0 by omega); omega
        omega
      · rintro ⟨q1, q2⟩
        have r1 : ay < m := by
          rcases Int.lt_or_le ay m with h | h
          · exact h
          · have := pp (show 0 ≤ hx - lx by omega) (show 0 ≤ ay - m by omega); omega
        have r2 : b_y < m := by
          rcases Int.lt_or_le b_y m with h | h
          · exact h
          · have := pp (show 0 ≤ hx - lx by omega) (show 0 ≤ b_y - m by omega); omega
        omega
theorem up_iff {ax ay bx b_y ly hy m : Int} (hs : spotLt ax ay bx b_y) (hl : ly < hy) : mtS ax ay bx b_y m ly m hy ↔ upM ax ay bx b_y ly hy m := by
  have hab : ax ≤ bx := by unfold spotLt at hs; omega
  have e3 : crs = crossI := rfl
  have ed : crossI ax ay bx b_y m hy = crossI ax ay bx b_y m ly + (bx - ax) * (hy - ly) := crs_y ax ay bx b_y m ly hy
  have e1 : crossI ax ay bx b_y m ly = (bx - ax) * (ly - ay) - (b_y - ay) * (m - ax) := rfl
  have c1 : crossI m ly m hy ax ay = - ((hy - ly) * (ax - m)) := by unfold crossI; rw [show m - m = 0 by omega, Int.zero_mul]; omega
  have c2 : crossI m ly m hy bx b_y = - ((hy - ly) * (bx - m)) := by unfold crossI; rw [show m - m = 0 by omega, Int.zero_mul]; omega
  unfold mtS upM
  rw [e3]; simp only [mx_le, le_mn, mn_le, le_mx]
  by_cases h0 : crossI ax ay bx b_y m ly = 0 ∧ crossI ax ay bx b_y m hy = 0
  · rw [if_pos h0, cmpS_le, lo_eq, lo_eq, hi_eq, hi_eq]
    have hx : bx - ax = 0 := mul_pos_eq (show 0 < hy - ly by omega) (by omega)
    have hyy : 0 < b_y - ay := by unfold spotLt at hs; omega
    have hm : m - ax = 0 := by
      rw [hx, Int.zero_mul] at e1
      exact mul_pos_eq hyy (by rw [Int.mul_comm]; omega)
    by_cases h1 : spotLt ax ay m ly <;> by_cases h2 : spotLt m hy bx b_y
    · rw [if_pos h1, if_pos h1, if_pos h2, if_pos h2]; unfold spotLt at *; omega
    · rw [if_pos h1, if_pos h1, if_neg h2, if_neg h2]; unfold spotLt at *; omega
    · rw [if_neg h1, if_neg h1, if_pos h2, if_pos h2]; unfold spotLt at *; omega
    · rw [if_neg h1, if_neg h1, if_neg h2, if_neg h2]; unfold spotLt at *; omega
  · rw [if_neg h0, sgn_mul, sgn_mul, c1, c2]
    constructor
    · intro h; omega
    · intro h
      have p1 := pn (show 0 ≤ hy - ly by omega) (show ax - m ≤ 0 by omega)
      have p2 := pp (show 0 ≤ hy - ly by omega) (show 0 ≤ bx - m by omega)
      exact ⟨by omega, by omega, ⟨by omega, by omega⟩, by omega, by omega⟩
theorem mt_col {ax ay bx b_y cx cy dx dy : Int} (h1 : ¬ mn bx dx < mx ax cx) (h2 : ¬ mn (mx ay b_y) (mx cy dy) < mx (mn ay b_y) (mn cy dy)) (ha : crossI ax ay bx b_y cx cy = 0) (hb : crossI ax ay bx b_y dx dy = 0) :
    mtS ax ay bx b_y cx cy dx dy ↔ cmpS (loS ax ay cx cy ax cx) (loS ax ay cx cy ay cy) (hiS bx b_y dx dy bx dx) (hiS bx b_y dx dy b_y dy) ≤ 0 := by
  unfold mtS; rw [if_pos ⟨ha, hb⟩]
  exact ⟨fun h => h.2.2, fun h => ⟨Int.not_lt.1 h1, Int.not_lt.1 h2, h⟩⟩
theorem mt_cr {ax ay bx b_y cx cy dx dy : Int} (h1 : ¬ mn bx dx < mx ax cx) (h2 : ¬ mn (mx ay b_y) (mx cy dy) < mx (mn ay b_y) (mn cy dy)) (h0 : ¬ (crossI ax ay bx b_y cx cy = 0 ∧ crossI ax ay bx b_y dx dy = 0)) :
    mtS ax ay bx b_y cx cy dx dy ↔ sgnI (crossI ax ay bx b_y cx cy) * sgnI (crossI ax ay bx b_y dx dy) ≤ 0 ∧ sgnI (crossI cx cy dx dy ax ay) * sgnI (crossI cx cy dx dy bx b_y) ≤ 0 := by
  unfold mtS; rw [if_neg h0]
  exact ⟨fun h => h.2.2, fun h => ⟨Int.not_lt.1 h1, Int.not_lt.1 h2, h⟩⟩
theorem mt_n1 {ax ay bx b_y cx cy dx dy : Int} (h1 : mn bx dx < mx ax cx) : ¬ mtS ax ay bx b_y cx cy dx dy := fun h => by have := h.1; omega
theorem mt_n2 {ax ay bx b_y cx cy dx dy : Int} (h2 : mn (mx ay b_y) (mx cy dy) < mx (mn ay b_y) (mn cy dy)) : ¬ mtS ax ay bx b_y cx cy dx dy := fun h => by have := h.2.1; omega
end Go.Proofs.Ytmbpomcbdopgnaa.Fw
set_option linter.unusedVariables false
set_option linter.unusedSimpArgs false
namespace Go.Proofs.Ytmbpomcbdopgnaa.Fw
def sM (ax ay bx b_y lx ly hx hy : Int) : Nat → Prop
  | 0 => lvM ax ay bx b_y lx hx ly
  | 1 => upM ax ay bx b_y ly hy hx
  | 2 => lvM ax ay bx b_y lx hx hy
  | _ => upM ax ay bx b_y ly hy lx
def metN (g : Nat → Prop) : Nat → Prop
  | 0 => False
  | i + 1 => metN g i ∨ g i
def coX (lx ly hx hy : Int) (i : Nat) : Int := ([lx, ly, hx, ly, hx, hy, lx, hy] : List Int).getD (i * 2) 0
def coY (lx ly hx hy : Int) (i : Nat) : Int := ([lx, ly, hx, ly, hx, hy, lx, hy] : List Int).getD (i * 2 + 1) 0
theorem side_fw {ax ay bx b_y cx cy dx dy : Int} {M : Prop} (hk : segOk ax ay bx b_y) (hc : spotOk cx cy) (hd : spotOk dx dy) (hl : spotLt cx cy dx dy) (hM : mtS ax ay bx b_y cx cy dx dy ↔ M) :
    soS cx cy dx dy ∧ (segOk ax ay bx b_y ∧ segOk (so0 cx cy dx dy) (so1 cx cy dx dy) (so2 cx cy dx dy) (so3 cx cy dx dy) ∧ mtS ax ay bx b_y (so0 cx cy dx dy) (so1 cx cy dx dy) (so2 cx cy dx dy) (so3 cx cy dx dy) ↔ M) := by
  have hS : soS cx cy dx dy := ⟨hc, hd, by have h := hl; unfold spotLt at h; omega⟩
  obtain ⟨q0, q1, q2, q3⟩ := so_lt hS hl
  rw [q0, q1, q2, q3]
  exact ⟨hS, ⟨fun h => hM.1 h.2.2, fun h => ⟨hk, ⟨hc, hd, hl⟩, hM.2 h⟩⟩⟩
theorem side_bw {ax ay bx b_y cx cy dx dy : Int} {M : Prop} (hk : segOk ax ay bx b_y) (hc : spotOk cx cy) (hd : spotOk dx dy) (hl : spotLt dx dy cx cy) (hM : mtS ax ay bx b_y dx dy cx cy ↔ M) :
    soS cx cy dx dy ∧ (segOk ax ay bx b_y ∧ segOk (so0 cx cy dx dy) (so1 cx cy dx dy) (so2 cx cy dx dy) (so3 cx cy dx dy) ∧ mtS ax ay bx b_y (so0 cx cy dx dy) (so1 cx cy dx dy) (so2 cx cy dx dy) (so3 cx cy dx dy) ↔ M) := by
  have hS : soS cx cy dx dy := ⟨hc, hd, by have h := hl; unfold spotLt at h; omega⟩
  obtain ⟨q0, q1, q2, q3⟩ := so_ge hS (by have h := hl; unfold spotLt at h ⊢; omega)
  rw [q0, q1, q2, q3]
  exact ⟨hS, ⟨fun h => hM.1 h.2.2, fun h => ⟨hk, ⟨hd, hc, hl⟩, hM.2 h⟩⟩⟩
theorem side_i {ax ay bx b_y lx ly hx hy : Int} {i : Nat} (hi : i < 4) (hk : segOk ax ay bx b_y) (hl : spotOk lx ly) (hh : spotOk hx hy) (h1 : lx < hx) (h2 : ly < hy) :
    soS (coX lx ly hx hy i) (coY lx ly hx hy i) (coX lx ly hx hy ((i + 1) % 4)) (coY lx ly hx hy ((i + 1) % 4)) ∧
    (segOk ax ay bx b_y ∧ segOk (so0 (coX lx ly hx hy i) (coY lx ly hx hy i) (coX lx ly hx hy ((i + 1) % 4)) (coY lx ly hx hy ((i + 1) % 4))) (so1 (coX lx ly hx hy i) (coY lx ly hx hy i) (coX lx ly hx hy ((i + 1) % 4)) (coY lx ly hx hy ((i + 1) % 4)))
        (so2 (coX lx ly hx hy i) (coY lx ly hx hy i) (coX lx ly hx hy ((i + 1) % 4)) (coY lx ly hx hy ((i + 1) % 4))) (so3 (coX lx ly hx hy i) (coY lx ly hx hy i) (coX lx ly hx hy ((i + 1) % 4)) (coY lx ly hx hy ((i + 1) % 4))) ∧
      mtS ax ay bx b_y (so0 (coX lx ly hx hy i) (coY lx ly hx hy i) (coX lx ly hx hy ((i + 1) % 4)) (coY lx ly hx hy ((i + 1) % 4))) (so1 (coX lx ly hx hy i) (coY lx ly hx hy i) (coX lx ly hx hy ((i + 1) % 4)) (coY lx ly hx hy ((i + 1) % 4)))
        (so2 (coX lx ly hx hy i) (coY lx ly hx hy i) (coX lx ly hx hy ((i + 1) % 4)) (coY lx ly hx hy ((i + 1) % 4))) (so3 (coX lx ly hx hy i) (coY lx ly hx hy i) (coX lx ly hx hy ((i + 1) % 4)) (coY lx ly hx hy ((i + 1) % 4))) ↔ sM ax ay bx b_y lx ly hx hy i) := by
  have hs := hk.2.2
  have hr : spotOk hx ly := ⟨hh.1, hl.2⟩
  have hu : spotOk lx hy := ⟨hl.1, hh.2⟩
  rcases (by omega : i = 0 ∨ i = 1 ∨ i = 2 ∨ i = 3) with rfl | rfl | rfl | rfl
  · exact side_fw (cx := lx) (cy := ly) (dx := hx) (dy := ly) hk hl hr (.inl h1) (lv_iff hs h1)
  · exact side_fw (cx := hx) (cy := ly) (dx := hx) (dy := hy) hk hr hh (.inr ⟨rfl, h2⟩) (up_iff hs h2)
  · exact side_bw (cx := hx) (cy := hy) (dx := lx) (dy := hy) hk hh hu (.inl h1) (lv_iff hs h1)
  · exact side_bw (cx := lx) (cy := hy) (dx := lx) (dy := ly) hk hu hl (.inr ⟨rfl, h2⟩) (up_iff hs h2)
theorem box_met {ax ay bx b_y lx ly hx hy : Int} (hk : segOk ax ay bx b_y) (h1 : lx < hx) (h2 : ly < hy) :
    mbV ax ay bx b_y lx ly hx hy ↔ (inB lx ly hx hy ax ay ∨ metN (sM ax ay bx b_y lx ly hx hy) 4) ∨ inB lx ly hx hy bx b_y := by
  have hab : ax ≤ bx := by have h := hk.2.2; unfold spotLt at h; omega
  rw [box_iff hab h1 h2]
  show _ ↔ (_ ∨ ((((False ∨ lvM ax ay bx b_y lx hx ly) ∨ upM ax ay bx b_y ly hy hx) ∨ lvM ax ay bx b_y lx hx hy) ∨ upM ax ay bx b_y ly hy lx)) ∨ _
  grind
theorem cB2 {b : Bool} (h : (b != b) = true) : False := by simp at h
end Go.Proofs.Ytmbpomcbdopgnaa.Fw
