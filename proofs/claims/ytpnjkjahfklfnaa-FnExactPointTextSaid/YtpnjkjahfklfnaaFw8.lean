/- Words: places, rows of one's own, what a slice of words is worth. -/
import Derived.Test.YtpnjkjahfklfnaaFw7
import Derived.Test.YtpnjkjahfklfnaaMa1
set_option linter.unusedVariables false
namespace Go.Proofs.Ytpnjkjahfklfnaa.Fw
open Go Go.RowKit
section
variable {P : Program} {n : Nat} {fr : Fr} {w : World} {ty : TypeId}
theorem dv_indexW {t e : TypeId} {x y : Operand} {g o l c i : Nat} {k : IntKind} {j : Int} (ht : P.underlying t = some (.slice e)) (hs : sizeB P e = some 1)
    (hx : EV n fr x (.slice (some ⟨g, o, none⟩) l c)) (hy : EV n fr y (.int k j)) (hj : j = (i : Nat)) (hl : i < l) : DV P n (.indexAddr t x y) ty fr w (.pointer (some ⟨g, o + i, none⟩)) :=
  dv_indexAddr ht hs hx hy (by omega) (by omega) (by subst hj; exact addr_add)
theorem dv_indexO {t e : TypeId} {x y : Operand} {g l c i : Nat} {k : IntKind} {j : Int} (ht : P.underlying t = some (.slice e)) (hs : sizeB P e = some 1)
    (hx : EV n fr x (.slice (some ⟨g, 0, none⟩) l c)) (hy : EV n fr y (.int k j)) (hj : j = (i : Nat)) (hl : i < l) : DV P n (.indexAddr t x y) ty fr w (.pointer (some ⟨g, i, none⟩)) :=
  dv_indexAddr ht hs hx hy (by omega) (by omega) (by subst hj; rw [show ((i : Nat) : Int).toNat = i from rfl, addr_add, Nat.zero_add])
theorem dv_sliceH {t e : TypeId} {x h : Operand} {ad : Option Addr} {l c sz i : Nat} {k : IntKind} {j : Int} (ht : P.underlying t = some (.slice e)) (hs : sizeB P e = some sz)
    (hx : EV n fr x (.slice ad l c)) (hh : EV n fr h (.int k j)) (hj : j = (i : Nat)) (h1 : i ≤ c) : DV P n (.slice t x none (some h) none) ty fr w (.slice ad i c) := by
  subst hj
  exact dv_slice_h ht hs hx hh (by omega) (by omega)
theorem oe_makeW {t e : TypeId} {x y : Operand} {kl kc k : IntKind} {l bytes : Nat} {j : Int} {K : Value → World → Prop} (ht : P.underlying t = some (.slice e))
    (hi : (P.info? e).map (fun i => (i.zero, i.size, i.bytes)) = some (some (.int k 0), 1, bytes)) (hx : EV n fr x (.int kl j)) (hy : EV n fr y (.int kc j)) (hj : j = (l : Nat)) (hb : bytes * l ≤ 281474976710656) (hl : l ≤ 281474976710656)
    (h : ∀ b w', New w b (.cells ((List.replicate l (0 : Int)).map (Value.int k)).toArray e) w' → K (.slice (some ⟨b, 0, none⟩) l l) w') : OE P n (.makeSlice t x y) ty fr w K := by
  subst hj
  refine oe_makeSlice ht hi rfl hx hy hb hl fun b w' hn => h b w' ?_
  rw [List.map_replicate]
  exact hn
end
theorem Wd.ownW {w : World} {T : Nat} {k : IntKind} {b : Nat} {xs : List Int} {fz : Nat × Nat} (hb : w.heap[b]? = some (.cells (xs.map (Value.int k)).toArray T fz)) : Wd w T k (some ⟨b, 0, none⟩) xs :=
  Wd.own (r := []) (by simpa using hb)
theorem Wd.trim {w : World} {T : Nat} {k : IntKind} {A : Option Addr} {xs : List Int} (h : Wd w T k A xs) : Wd w T k A (trimL xs) := by rw [trimL_take]; exact h.take _
/-- The words at A, worth x; no nought at their end. -/
def Wc (m T : Nat) (k : IntKind) (w : World) (A : Option Addr) (l c : Nat) (x : Int) : Prop :=
  ∃ xs : List Int, xs.length = l ∧ l ≤ c ∧ Wd w T k A xs ∧ okW (2 ^ m) xs ∧ canon xs ∧ x = valB (2 ^ m) xs
/-- The words at A, worth x. -/
def Ws (m T : Nat) (k : IntKind) (w : World) (A : Option Addr) (l c : Nat) (x : Int) : Prop :=
  ∃ xs : List Int, xs.length = l ∧ l ≤ c ∧ Wd w T k A xs ∧ okW (2 ^ m) xs ∧ x = valB (2 ^ m) xs
section
variable {m T : Nat} {k : IntKind} {w w' : World} {neg : Bool} {A : Option Addr} {l c : Nat} {z x : Int} {s : Nat}
theorem Wc.ws (h : Wc m T k w A l c x) : Ws m T k w A l c x := by obtain ⟨xs, h1, h2, h3, h4, h5, h6⟩ := h; exact ⟨xs, h1, h2, h3, h4, h6⟩
theorem Wc.ext (h : Wc m T k w A l c x) (e : Ext w w') : Wc m T k w' A l c x := by obtain ⟨xs, h1, h2, h3, h4⟩ := h; exact ⟨xs, h1, h2, h3.ext e, h4⟩
theorem Ws.ext (h : Ws m T k w A l c x) (e : Ext w w') : Ws m T k w' A l c x := by obtain ⟨xs, h1, h2, h3, h4⟩ := h; exact ⟨xs, h1, h2, h3.ext e, h4⟩
theorem Wc.st {b T' : Nat} {cs' : Array Value} {fz' : Nat × Nat} (h : Wc m T k w A l c x) (e : St b w w') (hb : w.heap[b]? = some (.cells cs' T' fz')) (hT : T' ≠ T) : Wc m T k w' A l c x := by
  obtain ⟨xs, h1, h2, h3, h4⟩ := h; exact ⟨xs, h1, h2, h3.st e hb hT, h4⟩
theorem Ws.st {b T' : Nat} {cs' : Array Value} {fz' : Nat × Nat} (h : Ws m T k w A l c x) (e : St b w w') (hb : w.heap[b]? = some (.cells cs' T' fz')) (hT : T' ≠ T) : Ws m T k w' A l c x := by
  obtain ⟨xs, h1, h2, h3, h4⟩ := h; exact ⟨xs, h1, h2, h3.st e hb hT, h4⟩
theorem two_pos (m : Nat) : (0 : Int) < 2 ^ m := Int.pow_pos (by decide)
theorem Ws.nonneg (h : Ws m T k w A l c x) : 0 ≤ x := by obtain ⟨xs, h1, h2, h3, h4, h5⟩ := h; rw [h5]; exact valB_nonneg (Int.le_of_lt (two_pos m)) h4
theorem Wc.nonneg (h : Wc m T k w A l c x) : 0 ≤ x := h.ws.nonneg
theorem Wc.cap (h : Wc m T k w A l c x) : l ≤ c := by obtain ⟨xs, h1, h2, _⟩ := h; exact h2
theorem Wc.pos (h : Wc m T k w A l c x) : 0 < l ↔ 0 < x := by
  obtain ⟨xs, h1, h2, h3, h4, h5, h6⟩ := h
  rw [← h1, h6]; exact canon_pos (two_pos m) h4 h5
theorem Wc.zero {c : Nat} : Wc m T k w none 0 c 0 := ⟨[], rfl, Nat.zero_le _, .nil, .nil, by simp [canon], rfl⟩
/-- A number's words are its size. -/
theorem Num.wc (h : Num m T k w neg A l c z s) : Wc m T k w A l c (z.natAbs : Int) := by
  obtain ⟨xs, h1, h2, h3, h4, h5, h6, h7, h8⟩ := h
  refine ⟨xs, h1, h2, h3, h4, h5, ?_⟩
  have := valB_nonneg (Int.le_of_lt (two_pos m)) h4
  rw [h7]
  cases neg <;> simp [sg] <;> omega
theorem Num.neg_iff (h : Num m T k w neg A l c z s) : neg = true ↔ z < 0 := by
  obtain ⟨xs, h1, h2, h3, h4, h5, h6, h7, h8⟩ := h
  have h9 := valB_nonneg (Int.le_of_lt (two_pos m)) h4
  have h10 := canon_pos (two_pos m) h4 h5
  rw [h7]
  cases neg
  · simp [sg]; exact h9
  · simp only [true_iff, sg, if_true]
    have := h6 rfl
    have := h10.1 (by omega)
    omega
theorem Num.neg_eq (h : Num m T k w neg A l c z s) : neg = decide (z < 0) := by
  have := h.neg_iff
  cases neg
  · exact (decide_eq_false (fun hz => by have := this.2 hz; cases this)).symm
  · exact (decide_eq_true (this.1 rfl)).symm
theorem Num.pos_iff (h : Num m T k w neg A l c z s) : 0 < l ↔ z ≠ 0 := by
  have := h.wc.pos
  omega
theorem Wc.num {neg' : Bool} (h : Wc m T k w A l c x) (hn : neg' = true → x ≠ 0) (hz : z = sg neg' x) (hs : x < 2 ^ s) : Num m T k w neg' A l c z s := by
  have hp := h.pos
  have h0 := h.nonneg
  obtain ⟨xs, h1, h2, h3, h4, h5, h6⟩ := h
  refine ⟨xs, h1, h2, h3, h4, h5, fun hh => ?_, by rw [hz, h6], ?_⟩
  · have := hn hh
    omega
  · have e : (z.natAbs : Int) = x := by rw [hz]; cases neg' <;> simp [sg] <;> omega
    have e2 : ((2 ^ s : Nat) : Int) = 2 ^ s := by simp
    omega
theorem Num.ltI (h : Num m T k w neg A l c z s) : (z.natAbs : Int) < 2 ^ s := by
  have := h.lt
  have e2 : ((2 ^ s : Nat) : Int) = 2 ^ s := by simp
  omega
theorem valB_sz {xs : List Int} {n : Nat} (h : okW (2 ^ m) xs) (hl : xs.length = n) : valB (2 ^ m) xs < 2 ^ (m * n) := by
  have := valB_lt (Int.le_of_lt (two_pos m)) h
  rw [hl, ← Int.pow_mul] at this
  exact this
theorem okW_lit {B : Int} {xs : List Int} (h : ∀ x ∈ xs, 0 ≤ x ∧ x < B) : okW B xs := h
theorem sz_add {x y : Int} {s t : Nat} (hx : x < 2 ^ s) (hy : y < 2 ^ t) : x + y < 2 ^ (max s t + 1) := by
  have h1 := pow_le_of (B := 2) (by decide) (Nat.le_max_left s t)
  have h2 := pow_le_of (B := 2) (by decide) (Nat.le_max_right s t)
  rw [Int.pow_succ]
  omega
theorem sz_mul {x y : Int} {s t : Nat} (h0 : 0 ≤ x) (h1 : 0 ≤ y) (hx : x < 2 ^ s) (hy : y < 2 ^ t) : x * y < 2 ^ (s + t) := by
  rw [Int.pow_add]
  have h3 : x * y ≤ x * 2 ^ t := Int.mul_le_mul_of_nonneg_left (Int.le_of_lt hy) h0
  have h4 : x * 2 ^ t < 2 ^ s * 2 ^ t := Int.mul_lt_mul_of_pos_right hx (two_pos t)
  omega
theorem sg_add {na nb : Bool} {x y : Int} (ha : na = true ↔ x < 0) (hb : nb = true ↔ y < 0) (h : (na == nb) = true) : sg na ((x.natAbs : Int) + (y.natAbs : Int)) = x + y := by
  cases na <;> cases nb <;> simp at h ha hb <;> simp [sg] <;> omega
theorem sg_sub {na nb : Bool} {x y : Int} (ha : na = true ↔ x < 0) (hb : nb = true ↔ y < 0) (h : (na == nb) = false) : sg na ((x.natAbs : Int) - (y.natAbs : Int)) = x + y := by
  cases na <;> cases nb <;> simp at h ha hb <;> simp [sg] <;> omega
theorem sg_sub' {na nb : Bool} {x y : Int} (ha : na = true ↔ x < 0) (hb : nb = true ↔ y < 0) (h : (na == nb) = false) : sg nb ((y.natAbs : Int) - (x.natAbs : Int)) = x + y := by
  cases na <;> cases nb <;> simp at h ha hb <;> simp [sg] <;> omega
theorem sg_not {na : Bool} {x : Int} (ha : na = true ↔ x < 0) : sg (!na) (x.natAbs : Int) = -x := by
  cases na <;> simp at ha <;> simp [sg] <;> omega
theorem sg_mul {na nb : Bool} {x y : Int} (ha : na = true ↔ x < 0) (hb : nb = true ↔ y < 0) : sg (na != nb) ((x.natAbs : Int) * (y.natAbs : Int)) = x * y := by
  have ex : (x.natAbs : Int) = if na then -x else x := by cases na <;> simp at ha <;> simp <;> omega
  have ey : (y.natAbs : Int) = if nb then -y else y := by cases nb <;> simp at hb <;> simp <;> omega
  rw [ex, ey]
  cases na <;> cases nb <;> simp [sg, Int.mul_neg, Int.neg_mul]
/-- How many words: fewer than bits. -/
theorem Wc.len (hm : 0 < m) (h : Wc m T k w A l c x) (hs : x < 2 ^ s) : m * l < s + m ∨ l = 0 := by
  obtain ⟨xs, h1, h2, h3, h4, h5, h6⟩ := h
  by_cases hl : l = 0
  · exact .inr hl
  · refine .inl ?_
    have hg := canon_ge (two_pos m) h4 h5 (by omega)
    rw [← h6, h1, ← Int.pow_mul] at hg
    have hlt : (2 : Int) ^ (m * (l - 1)) < 2 ^ s := by omega
    have : m * (l - 1) < s := by
      rcases Nat.lt_or_ge (m * (l - 1)) s with h | h
      · exact h
      · have := pow_le_of (B := 2) (by decide) h
        omega
    rw [Nat.mul_sub, Nat.mul_one] at this
    have : m ≤ m * l := Nat.le_mul_of_pos_right m (by omega)
    omega
theorem Num.len (hm : 0 < m) (h : Num m T k w neg A l c z s) : m * l < s + m ∨ l = 0 := by
  refine h.wc.len hm ?_
  have := h.lt
  have e2 : ((2 ^ s : Nat) : Int) = 2 ^ s := by simp
  omega
end
end Go.Proofs.Ytpnjkjahfklfnaa.Fw
