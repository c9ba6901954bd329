/- Walks and plain mathematics, packed by a program of this session: declarations that the rows reach. -/
import Derived.Test.YtfmkadgjoechnaaPda
set_option linter.unusedVariables false
set_option linter.unusedSimpArgs false
namespace Go.Proofs.Ytfmkadgjoechnaa.Fw
open Go Go.RowKit
structure Bx (b : Nat) (w w' : World) : Prop where
  os : w'.os = w.os
  tape : w'.tape = w.tape
  output : w'.output = w.output
  size : w.heap.size ≤ w'.heap.size
  block : ∀ k, k < w.heap.size → k ≠ b → w'.heap[k]? = w.heap[k]?
theorem Bx.refl (b : Nat) (w : World) : Bx b w w := ⟨rfl, rfl, rfl, Nat.le_refl _, fun _ _ _ => rfl⟩
theorem Bx.trans {b : Nat} {w w1 w2 : World} (h : Bx b w w1) (h2 : Bx b w1 w2) : Bx b w w2 :=
  ⟨h2.os.trans h.os, h2.tape.trans h.tape, h2.output.trans h.output, Nat.le_trans h.size h2.size, fun k hk hb => (h2.block k (Nat.lt_of_lt_of_le hk h.size) hb).trans (h.block k hk hb)⟩
theorem bx_ext {b : Nat} {w w1 w2 : World} (h : Bx b w w1) (e : Ext w1 w2) : Bx b w w2 :=
  ⟨e.os.trans h.os, e.tape.trans h.tape, e.output.trans h.output, Nat.le_trans h.size e.size, fun k hk hb => (e.block k (Nat.lt_of_lt_of_le hk h.size)).trans (h.block k hk hb)⟩
theorem bx_st {b : Nat} {w w1 w2 : World} (h : Bx b w w1) (x : St b w1 w2) : Bx b w w2 :=
  ⟨x.os.trans h.os, x.tape.trans h.tape, x.output.trans h.output, Nat.le_trans h.size (Nat.le_of_eq x.size.symm), fun k hk hb => (x.block k hb).trans (h.block k hk hb)⟩
theorem bx_stN {b b' : Nat} {w w1 w2 : World} (h : Bx b w w1) (hN : w.heap.size ≤ b') (x : St b' w1 w2) : Bx b w w2 :=
  ⟨x.os.trans h.os, x.tape.trans h.tape, x.output.trans h.output, Nat.le_trans h.size (Nat.le_of_eq x.size.symm), fun k hk hb => (x.block k (by omega)).trans (h.block k hk hb)⟩
theorem below_bx {b : Nat} {w0 w w' : World} (h : Ext w0 w) (hb : w0.heap.size ≤ b) (e : Bx b w w') : Ext w0 w' :=
  ⟨e.os.trans h.os, e.tape.trans h.tape, e.output.trans h.output, Nat.le_trans h.size e.size, fun k hk => (e.block k (Nat.lt_of_lt_of_le hk h.size) (by omega)).trans (h.block k hk)⟩
theorem bx_blk {b k : Nat} {w w' : World} {o : Obj} (e : Bx b w w') (h : w.heap[k]? = some o) (hne : k ≠ b) : w'.heap[k]? = some o := (e.block k (lt_of_blk h) hne).trans h
theorem RdI.bx {b : Nat} {w w' : World} {k : IntKind} {A : Option Addr} {L : List Int} (h : RdI w k A L) (e : Bx b w w') (hne : L = [] ∨ ∀ g o, A = some ⟨g, o, none⟩ → g ≠ b) : RdI w' k A L := by
  rcases hne with h0 | hne
  · subst h0; exact .inl rfl
  · rcases h with h | ⟨g, off, T, cs, fz, hA, hg, hc⟩
    · exact .inl h
    · exact .inr ⟨g, off, T, cs, fz, hA, bx_blk e hg (hne g off hA), hc⟩
theorem RdI.ne {w : World} {k : IntKind} {A : Option Addr} {L : List Int} {b : Nat} (h : RdI w k A L) (hb : w.heap.size ≤ b) : L = [] ∨ ∀ g o, A = some ⟨g, o, none⟩ → g ≠ b := by
  by_cases h0 : L = []
  · exact .inl h0
  · refine .inr fun g o hA => ?_
    have := h.lt (List.length_pos_iff.2 h0) g o hA
    omega
theorem Wd.bx {w w' : World} {T T' b : Nat} {k : IntKind} {A : Option Addr} {xs : List Int} {cs' : Array Value} {fz' : Nat × Nat} (h : Wd w T k A xs) (e : Bx b w w') (hb : w.heap[b]? = some (.cells cs' T' fz')) (hT : T' ≠ T) : Wd w' T k A xs := by
  rcases h with h | ⟨g, off, cs, fz, hA, hg, hc⟩
  · exact .inl h
  · refine .inr ⟨g, off, cs, fz, hA, bx_blk e hg ?_, hc⟩
    intro he
    subst he
    rw [hg] at hb
    injection hb with hb
    injection hb with _ hb _
    exact hT hb.symm
theorem Num.bx {m T T' b s l c : Nat} {k : IntKind} {w w' : World} {neg : Bool} {A : Option Addr} {z : Int} {cs' : Array Value} {fz' : Nat × Nat} (h : Num m T k w neg A l c z s) (e : Bx b w w') (hb : w.heap[b]? = some (.cells cs' T' fz')) (hT : T' ≠ T) : Num m T k w' neg A l c z s := by
  obtain ⟨xs, h1, h2, h3, h4⟩ := h
  exact ⟨xs, h1, h2, h3.bx e hb hT, h4⟩
theorem Wc.bx {m T T' b l c : Nat} {k : IntKind} {w w' : World} {A : Option Addr} {x : Int} {cs' : Array Value} {fz' : Nat × Nat} (h : Wc m T k w A l c x) (e : Bx b w w') (hb : w.heap[b]? = some (.cells cs' T' fz')) (hT : T' ≠ T) : Wc m T k w' A l c x := by
  obtain ⟨xs, h1, h2, h3, h4⟩ := h
  exact ⟨xs, h1, h2, h3.bx e hb hT, h4⟩
theorem Ws.bx {m T T' b l c : Nat} {k : IntKind} {w w' : World} {A : Option Addr} {x : Int} {cs' : Array Value} {fz' : Nat × Nat} (h : Ws m T k w A l c x) (e : Bx b w w') (hb : w.heap[b]? = some (.cells cs' T' fz')) (hT : T' ≠ T) : Ws m T k w' A l c x := by
  obtain ⟨xs, h1, h2, h3, h4⟩ := h
  exact ⟨xs, h1, h2, h3.bx e hb hT, h4⟩
theorem wrap_rg64 (x : Int) : 0 ≤ IntKind.u64.wrap x ∧ IntKind.u64.wrap x < 18446744073709551616 := by
  simp [IntKind.wrap, IntKind.signed, IntKind.bits]
  omega
theorem wrap_rgi (x : Int) : -9223372036854775808 ≤ IntKind.i64.wrap x ∧ IntKind.i64.wrap x ≤ 9223372036854775807 := by
  simp [IntKind.wrap, IntKind.signed, IntKind.bits]
  omega
theorem shr_rg {x : Int} {K : Nat} {B : Int} (h : 0 ≤ x ∧ x < B) : 0 ≤ x / 2 ^ K ∧ x / 2 ^ K < B := by
  have hp : (0 : Int) < 2 ^ K := Int.pow_pos (by decide)
  exact ⟨Int.ediv_nonneg h.1 (Int.le_of_lt hp), Int.lt_of_le_of_lt (Int.ediv_le_self _ h.1) h.2⟩
theorem lit_rg {lo hi : Int} {L : List Int} (h : L.all (fun y => decide (lo ≤ y ∧ y ≤ hi)) = true) (h0 : lo ≤ 0 ∧ 0 ≤ hi) (i : Nat) : lo ≤ L.getD i 0 ∧ L.getD i 0 ≤ hi := by
  rw [List.getD_eq_getElem?_getD]
  cases hL : L[i]? with
  | none => simpa using h0
  | some y =>
    have := List.all_eq_true.1 h y (List.mem_of_getElem? hL)
    simpa using this
theorem or_rg64 (a b : Int) : 0 ≤ bitV .u64 .or a b ∧ bitV .u64 .or a b < 18446744073709551616 := by
  unfold bitV; exact wrap_rg64 _
end Go.Proofs.Ytfmkadgjoechnaa.Fw
set_option linter.unusedVariables false
set_option linter.unusedSimpArgs false
namespace Go.Proofs.Ytfmkadgjoechnaa.Fw
theorem cB {b : Bool} (h : (b != b) = true) : False := by simp at h
theorem cS1 {a b : Int} (h : fz (a + b) ≠ fz (b + a)) : False := h (by rw [Int.add_comm b a])
theorem cS2 {a b : Int} (h : (decide (fits (a + b)) != decide (fits (b + a))) = true) : False := by rw [Int.add_comm b a] at h; simp at h
theorem cM1 {a b : Int} (h : fz (a * b) ≠ fz (b * a)) : False := h (by rw [Int.mul_comm b a])
theorem cM2 {a b : Int} (h : (decide (fits (a * b)) != decide (fits (b * a))) = true) : False := by rw [Int.mul_comm b a] at h; simp at h
theorem cS4 {a b : Int} (h1 : fits (a + b)) (fa : fits a) (h : fz (fz (a + b) - b) ≠ a) : False := by
  rw [fz_t h1, show a + b - b = a by omega] at h; exact h (fz_t fa)
theorem cS5 {a b : Int} (h1 : fits (a + b)) (fa : fits a) (h : ¬ fits (fz (a + b) - b)) : False := by
  rw [fz_t h1, show a + b - b = a by omega] at h; exact h fa
theorem cS6 {a b c : Int} (h1 : fits (a + b)) (h2 : fits (fz (a + b) * c)) (h3 : fits (a * c)) (h4 : fits (b * c)) :
    fits (fz (a * c) + fz (b * c)) ∧ fz (fz (a * c) + fz (b * c)) = fz (fz (a + b) * c) := by
  rw [fz_t h1] at h2 ⊢
  rw [fz_t h3, fz_t h4, ← Int.add_mul]
  exact ⟨h2, rfl⟩
theorem cS7 {a b c : Int} (h1 : fits (a + b)) (h2 : fits (fz (a + b) * c)) (h3 : fits (a * c)) (h4 : fits (b * c)) (h : ¬ fits (fz (a * c) + fz (b * c))) : False := h (cS6 h1 h2 h3 h4).1
theorem cO1 {a b : Int} (h : sgnI (a - b) ≠ -sgnI (b - a)) : False := h (by rw [← sgnI_neg]; congr 1; omega)
theorem cO2 {a b : Int} (h : (decide (sgnI (a - b) = 0) != decide (a = b)) = true) : False := by
  have h1 := @sgnI_zero (a - b)
  have e : decide (sgnI (a - b) = 0) = decide (a = b) := by
    rw [Bool.eq_iff_iff, decide_eq_true_iff, decide_eq_true_iff]; omega
  rw [e] at h; simp at h
theorem cO2w {a b : Int} (fa : fits a) (fb : fits b) (h : (decide (sgnI (a - b) = 0) != decide (([wv3 a, wv2 a, wv1 a, wv0 a] : List Int) = [wv3 b, wv2 b, wv1 b, wv0 b])) = true) : False := by
  have e := wl_eq fa fb
  have e2 : decide (([wv3 a, wv2 a, wv1 a, wv0 a] : List Int) = [wv3 b, wv2 b, wv1 b, wv0 b]) = decide (a = b) := by
    rw [Bool.eq_iff_iff, decide_eq_true_iff, decide_eq_true_iff]; exact e
  rw [e2] at h
  exact cO2 h
theorem cO3 {a b : Int} (h1 : fits (a - b)) (h : sgnI (fz (a - b)) ≠ sgnI (a - b)) : False := h (by rw [fz_t h1])
theorem cO4 {a b x : Int} (h1 : sgnI (a - b) ≤ 0) (h2 : sgnI (b - x) ≤ 0) (h3 : 0 < sgnI (a - x)) : False := by
  have g1 := @sgnI_gt (a - b); have g2 := @sgnI_gt (b - x); have g3 := @sgnI_gt (a - x)
  omega
theorem div_fits {a g : Int} (ha : fits a) (hg : 0 < g) : fits (a / g) := by
  have h1 : (a / g).natAbs ≤ a.natAbs := Int.natAbs_ediv_le_natAbs a g
  unfold fits at *
  rcases Int.lt_or_le a 0 with h | h
  · have : a / g < 0 := Int.ediv_neg_of_neg_of_pos h hg
    omega
  · have : 0 ≤ a / g := Int.ediv_nonneg h (Int.le_of_lt hg)
    omega
theorem cG0 {a b : Int} (h1 : fits (gI a b)) (h : sgnI (fz (gI a b)) = 0) : a = 0 ∧ b = 0 := by
  rw [fz_t h1] at h
  have h2 := sgnI_zero.1 h
  unfold gI at h2
  have h3 : Int.gcd a b = 0 := by omega
  exact Int.gcd_eq_zero_iff.1 h3
theorem cG1 {a b : Int} (h1 : fits (gI a b)) (h2 : ¬ sgnI (fz (gI a b)) = 0) (ha : fits a) : dOk a (fz (gI a b)) ∧ a % fz (gI a b) = 0 ∧ 0 ≤ sgnI (fz (gI a b)) := by
  rw [fz_t h1] at h2 ⊢
  have hn := gI_nonneg a b
  have h0 : gI a b ≠ 0 := fun h => h2 (sgnI_zero.2 h)
  have hm : a % gI a b = 0 := Int.emod_eq_zero_of_dvd (gI_dl a b)
  refine ⟨⟨h0, div_fits ha (by omega), by rw [hm]; exact fits0⟩, hm, ?_⟩
  have := @sgnI_lt (gI a b); omega
theorem cG2 {a b : Int} (h1 : fits (gI a b)) (h2 : ¬ sgnI (fz (gI a b)) = 0) (hb : fits b) : dOk b (fz (gI a b)) ∧ b % fz (gI a b) = 0 := by
  rw [fz_t h1] at h2 ⊢
  have hn := gI_nonneg a b
  have h0 : gI a b ≠ 0 := fun h => h2 (sgnI_zero.2 h)
  have hm : b % gI a b = 0 := Int.emod_eq_zero_of_dvd (gI_dr a b)
  exact ⟨⟨h0, div_fits hb (by omega), by rw [hm]; exact fits0⟩, hm⟩
theorem cG3 {a b : Int} (h1 : fits (gI a b)) (h2 : dOk a b) : gI b (pkz (dOk a b) (a % b)) = gI a b := by rw [pkz_t h2]; exact gI_step
theorem mod_fits {a b : Int} (hb : fits b) (h0 : b ≠ 0) : fits (a % b) := by
  have h1 := Int.emod_nonneg a h0
  have h2 := Int.emod_lt a h0
  unfold fits at *; omega
theorem cP1 {a b : Int} (ha : fits a) (hb : fits b) (h : ¬ dOk a b) (h1 : ¬ sgnI b = 0) : nbits a.natAbs = 256 := by
  have h0 : b ≠ 0 := fun h => h1 (sgnI_zero.2 h)
  have hq : ¬ fits (a / b) := fun hq => h ⟨h0, hq, mod_fits hb h0⟩
  have hm : a = -57896044618658097711785492504343953926634992332820282019728792003956564819968 := by
    have h2 : (a / b).natAbs ≤ a.natAbs := Int.natAbs_ediv_le_natAbs a b
    unfold fits at hq ha
    omega
  rw [hm]; decide
theorem cPa {a b : Int} (hb : fits b) (h : dOk a b) : 0 ≤ sgnI (pkz (dOk a b) (a % b)) := by
  rw [pkz_t h]
  have h1 := Int.emod_nonneg a h.1
  have h2 := @sgnI_lt (a % b)
  omega
theorem cPb {a b : Int} (h : dOk a b) (hn : ¬ sgnI b < 0) : sgnI (pkz (dOk a b) (a % b) - b) < 0 := by
  rw [pkz_t h]
  have h1 := Int.emod_lt a h.1
  have h2 := @sgnI_lt b
  have h3 := @sgnI_lt (a % b - b)
  have h4 := h.1
  omega
theorem cPc {a b : Int} (hb : fits b) (h : dOk a b) (hn : sgnI b < 0) : fits (pkz (dOk a b) (a % b) + b) ∧ sgnI (fz (pkz (dOk a b) (a % b) + b)) < 0 := by
  rw [pkz_t h]
  have h1 := Int.emod_lt a h.1
  have h5 := Int.emod_nonneg a h.1
  have h2 := @sgnI_lt b
  have hf : fits (a % b + b) := by unfold fits at *; omega
  rw [fz_t hf]
  have h3 := @sgnI_lt (a % b + b)
  exact ⟨hf, by omega⟩
theorem cPd {a b : Int} (ha : fits a) (h : dOk a b) (hp : fits (pkz (dOk a b) (a / b) * b)) : fits (fz (pkz (dOk a b) (a / b) * b) + pkz (dOk a b) (a % b)) ∧ fz (fz (pkz (dOk a b) (a / b) * b) + pkz (dOk a b) (a % b)) = a := by
  rw [fz_t hp, pkz_t h, pkz_t h]
  have e : a / b * b + a % b = a := Int.ediv_mul_add_emod a b
  rw [e]
  exact ⟨ha, fz_t ha⟩
end Go.Proofs.Ytfmkadgjoechnaa.Fw
namespace Go.Proofs.Ytfmkadgjoechnaa.Fw
open Go Go.RowKit
theorem u8_rg {x : Int} (h : IntKind.u8.has x) : 0 ≤ x ∧ x < 256 := by
  simp [IntKind.has, IntKind.min, IntKind.max, IntKind.signed, IntKind.bits] at h
  omega
end Go.Proofs.Ytfmkadgjoechnaa.Fw
