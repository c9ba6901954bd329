/- Walks and plain mathematics, packed by a program of this session: declarations that the rows reach. -/
import Derived.Test.YtmbpomcbdopgnaaPta
set_option linter.unusedVariables false
set_option linter.unusedSimpArgs false
namespace Go.Proofs.Ytmbpomcbdopgnaa.Fw
open Go Go.RowKit
structure Ev where
  x : Int
  y : Int
  u : Int
  es : List Int
def evW (e : Ev) : Nat → Int
  | 0 => wv3 e.x
  | 1 => wv2 e.x
  | 2 => wv1 e.x
  | 3 => wv0 e.x
  | 4 => wv3 e.y
  | 5 => wv2 e.y
  | 6 => wv1 e.y
  | 7 => wv0 e.y
  | 8 => wv3 e.u
  | 9 => wv2 e.u
  | 10 => wv1 e.u
  | _ => wv0 e.u
abbrev SlF := Nat → Option Addr × Nat
def evAt (cs : Nat → Option Value) (i : Nat) (ws : Nat → Int) (A : Option Addr) (n c : Nat) : Prop :=
  (∀ j, j < 12 → cs (i * 13 + j) = some (.int .u64 (ws j))) ∧ cs (i * 13 + 12) = some (.slice A n c)
structure NR (w : World) (lo hi : Nat) (A : Option Addr) (l : Nat) (W : Nat → Nat → Int) (E : Nat → List Int) (SL : SlF) : Prop where
  lh : hi ≤ w.heap.size
  row : l = 0 ∨ ∃ (g off T : Nat) (cs : Array Value) (fz : Nat × Nat), A = some ⟨g, off, none⟩ ∧ w.heap[g]? = some (.cells cs T fz) ∧ (lo ≤ g ∧ g < hi) ∧ ∀ i, i < l → evAt (fun k => cs[off + k]?) i (W i) (SL i).1 (E i).length (SL i).2
  inner : ∀ i, i < l → (E i).length ≤ (SL i).2 ∧ RdI w .i64 (SL i).1 (E i) ∧ ∀ g o, (SL i).1 = some ⟨g, o, none⟩ → E i ≠ [] → lo ≤ g ∧ g < hi
structure Mid (lo hi : Nat) (x : Int) (w w' : World) : Prop where
  os : w'.os = w.os
  tape : w'.tape = w.tape
  output : w'.output = w.output
  size : w.heap.size ≤ w'.heap.size
  block : ∀ k, k < w.heap.size → (k < lo ∨ hi ≤ k ∨ (k : Int) = x) → w'.heap[k]? = w.heap[k]?
theorem Mid.refl (lo hi : Nat) (x : Int) (w : World) : Mid lo hi x w w := ⟨rfl, rfl, rfl, Nat.le_refl _, fun _ _ _ => rfl⟩
theorem Mid.trans {lo hi : Nat} {x : Int} {w w1 w2 : World} (h : Mid lo hi x w w1) (h2 : Mid lo hi x w1 w2) : Mid lo hi x w w2 :=
  ⟨h2.os.trans h.os, h2.tape.trans h.tape, h2.output.trans h.output, Nat.le_trans h.size h2.size, fun k hs hk => (h2.block k (Nat.lt_of_lt_of_le hs h.size) hk).trans (h.block k hs hk)⟩
theorem Ext.mid {lo hi : Nat} {x : Int} {w w' : World} (h : Ext w w') : Mid lo hi x w w' := ⟨h.os, h.tape, h.output, h.size, fun k hs _ => h.block k hs⟩
theorem St.mid {lo hi b : Nat} {x : Int} {w w' : World} (h : St b w w') (h1 : lo ≤ b) (h2 : b < hi) (h3 : (b : Int) ≠ x) : Mid lo hi x w w' :=
  ⟨h.os, h.tape, h.output, Nat.le_of_eq h.size.symm, fun k _ hk => h.block k (by omega)⟩
theorem below_mid {N lo hi : Nat} {x : Int} {w0 w w' : World} (h : Below N w0 w) (hN : N ≤ lo) (hs : N ≤ w.heap.size) (e : Mid lo hi x w w') : Below N w0 w' :=
  h.trans ⟨e.os, e.tape, e.output, e.size, fun k hk => e.block k (by omega) (.inl (by omega))⟩
theorem RdI.keep {w w' : World} {k : IntKind} {A : Option Addr} {L : List Int} (h : RdI w k A L) (hk : ∀ g o ob, A = some ⟨g, o, none⟩ → L ≠ [] → w.heap[g]? = some ob → w'.heap[g]? = some ob) : RdI w' k A L := by
  rcases h with h | ⟨g, off, T, cs, fz, hA, hg, hc⟩
  · exact .inl h
  · by_cases hL : L = []
    · exact .inl (by rw [hL]; rfl)
    · exact .inr ⟨g, off, T, cs, fz, hA, hk g off _ hA hL hg, hc⟩
section
variable {w w' : World} {lo hi : Nat} {A : Option Addr} {l : Nat} {W : Nat → Nat → Int} {E : Nat → List Int} {SL : SlF}
theorem NR.keep (h : NR w lo hi A l W E SL) (hs : w.heap.size ≤ w'.heap.size) (hk : ∀ g ob, lo ≤ g → g < hi → w.heap[g]? = some ob → w'.heap[g]? = some ob) : NR w' lo hi A l W E SL := by
  refine ⟨Nat.le_trans h.lh hs, ?_, fun i hi' => ?_⟩
  · rcases h.row with h | ⟨g, off, T, cs, fz, hA, hg, hr, hc⟩
    · exact .inl h
    · exact .inr ⟨g, off, T, cs, fz, hA, hk g _ hr.1 hr.2 hg, hr, hc⟩
  · obtain ⟨h1, h2, h3⟩ := h.inner i hi'
    exact ⟨h1, h2.keep fun g o ob hA hL hg => hk g ob (h3 g o hA hL).1 (h3 g o hA hL).2 hg, h3⟩
theorem NR.ext (h : NR w lo hi A l W E SL) (e : Ext w w') : NR w' lo hi A l W E SL := h.keep e.size fun _ _ _ _ hg => e.blk hg
theorem NR.mid {lo' hi' : Nat} {x' : Int} (h : NR w lo hi A l W E SL) (e : Mid lo' hi' x' w w') (hd : hi ≤ lo' ∨ hi' ≤ lo) : NR w' lo hi A l W E SL :=
  h.keep e.size fun g _ h1 h2 hg => (e.block g (lt_of_blk hg) (by omega)).trans hg
theorem NR.bl {base : Nat} (h : NR w lo hi A l W E SL) (e : Below base w w') (hd : hi ≤ base) : NR w' lo hi A l W E SL :=
  h.keep e.size fun g _ h1 h2 hg => (e.block g (by omega)).trans hg
theorem NR.st {b : Nat} (h : NR w lo hi A l W E SL) (e : St b w w') (hd : hi ≤ b ∨ b < lo) : NR w' lo hi A l W E SL :=
  h.keep (Nat.le_of_eq e.size.symm) fun g _ h1 h2 hg => (e.block g (by omega)).trans hg
theorem NR.at (h : NR w lo hi A l W E SL) (hp : 0 < l) : ∃ g o, A = some ⟨g, o, none⟩ := by
  rcases h.row with h | ⟨g, off, T, cs, fz, hA, hg, hr, hc⟩
  · omega
  · exact ⟨g, off, hA⟩
theorem NR.cells {g o : Nat} (h : NR w lo hi (some ⟨g, o, none⟩) l W E SL) {i : Nat} (hi' : i < l) : evAt (fun k => w.cell? ⟨g, o + k, none⟩) i (W i) (SL i).1 (E i).length (SL i).2 := by
  rcases h.row with h | ⟨g', off, T, cs, fz, hA, hg, hr, hc⟩
  · omega
  · obtain ⟨rfl, rfl⟩ : g = g' ∧ o = off := by simpa using hA
    have hcell : ∀ k, w.cell? ⟨g, o + k, none⟩ = cs[o + k]? := fun k => cell_of_row w g (o + k) cs T fz hg
    obtain ⟨h1, h2⟩ := hc i hi'
    exact ⟨fun j hj => (hcell _).trans (h1 j hj), (hcell _).trans h2⟩
theorem NR.word {g o : Nat} (h : NR w lo hi (some ⟨g, o, none⟩) l W E SL) {i j : Nat} (hi' : i < l) (hj : j < 12) : w.cell? ⟨g, o + (i * 13 + j), none⟩ = some (.int .u64 (W i j)) := (h.cells hi').1 j hj
theorem NR.sl {g o : Nat} (h : NR w lo hi (some ⟨g, o, none⟩) l W E SL) {i : Nat} (hi' : i < l) : w.cell? ⟨g, o + (i * 13 + 12), none⟩ = some (.slice (SL i).1 (E i).length (SL i).2) := (h.cells hi').2
theorem NR.rd (h : NR w lo hi A l W E SL) {i : Nat} (hi' : i < l) : RdI w .i64 (SL i).1 (E i) := (h.inner i hi').2.1
theorem NR.cap (h : NR w lo hi A l W E SL) {i : Nat} (hi' : i < l) : (E i).length ≤ (SL i).2 := (h.inner i hi').1
theorem NR.pt {g o : Nat} (h : NR w lo hi (some ⟨g, o, none⟩) l W E SL) {i : Nat} (hi' : i < l) : ∀ (j : Nat) (v : Value), ([.int .u64 (W i 0), .int .u64 (W i 1), .int .u64 (W i 2), .int .u64 (W i 3), .int .u64 (W i 4), .int .u64 (W i 5), .int .u64 (W i 6), .int .u64 (W i 7), .int .u64 (W i 8), .int .u64 (W i 9), .int .u64 (W i 10), .int .u64 (W i 11)] : List Value)[j]? = some v → w.cell? ⟨g, (o + i * 13) + j, none⟩ = some v := by
  intro j v hj
  have hjl := (List.getElem?_eq_some_iff.1 hj).1
  simp only [List.length_cons, List.length_nil, Nat.zero_add] at hjl
  have h1 := h.word hi' (show j < 12 by omega)
  rw [Nat.add_assoc, h1, ← hj]
  rcases (show j = 0 ∨ j = 1 ∨ j = 2 ∨ j = 3 ∨ j = 4 ∨ j = 5 ∨ j = 6 ∨ j = 7 ∨ j = 8 ∨ j = 9 ∨ j = 10 ∨ j = 11 by omega) with rfl | rfl | rfl | rfl | rfl | rfl | rfl | rfl | rfl | rfl | rfl | rfl <;> rfl
theorem NR.ev {g o : Nat} (h : NR w lo hi (some ⟨g, o, none⟩) l W E SL) {i : Nat} (hi' : i < l) : ∀ (j : Nat) (v : Value), ([.int .u64 (W i 0), .int .u64 (W i 1), .int .u64 (W i 2), .int .u64 (W i 3), .int .u64 (W i 4), .int .u64 (W i 5), .int .u64 (W i 6), .int .u64 (W i 7), .int .u64 (W i 8), .int .u64 (W i 9), .int .u64 (W i 10), .int .u64 (W i 11), .slice (SL i).1 (E i).length (SL i).2] : List Value)[j]? = some v → w.cell? ⟨g, (o + i * 13) + j, none⟩ = some v := by
  intro j v hj
  have hjl := (List.getElem?_eq_some_iff.1 hj).1
  simp only [List.length_cons, List.length_nil, Nat.zero_add] at hjl
  rcases Nat.lt_or_ge j 12 with h12 | h12
  · refine h.pt hi' j v ?_
    rw [← hj]
    rcases (show j = 0 ∨ j = 1 ∨ j = 2 ∨ j = 3 ∨ j = 4 ∨ j = 5 ∨ j = 6 ∨ j = 7 ∨ j = 8 ∨ j = 9 ∨ j = 10 ∨ j = 11 by omega) with rfl | rfl | rfl | rfl | rfl | rfl | rfl | rfl | rfl | rfl | rfl | rfl <;> rfl
  · obtain rfl : j = 12 := by omega
    rw [Nat.add_assoc, h.sl hi', ← hj]
    rfl
theorem NR.congr {W' : Nat → Nat → Int} {E' : Nat → List Int} (h : NR w lo hi A l W E SL) (hW : ∀ i, i < l → ∀ j, j < 12 → W' i j = W i j) (hE : ∀ i, i < l → E' i = E i) : NR w lo hi A l W' E' SL := by
  refine ⟨h.lh, ?_, fun i hi' => by rw [hE i hi']; exact h.inner i hi'⟩
  rcases h.row with h | ⟨g, off, T, cs, fz, hA, hg, hr, hc⟩
  · exact .inl h
  · refine .inr ⟨g, off, T, cs, fz, hA, hg, hr, fun i hi' => ?_⟩
    obtain ⟨h1, h2⟩ := hc i hi'
    exact ⟨fun j hj => by rw [h1 j hj, hW i hi' j hj], by rw [hE i hi']; exact h2⟩
theorem NR.hi_mono {hi2 : Nat} (h : NR w lo hi A l W E SL) (hh : hi ≤ hi2) (h2 : hi2 ≤ w.heap.size) : NR w lo hi2 A l W E SL :=
  ⟨h2, by
    rcases h.row with h | ⟨g, off, T, cs, fz, hA, hg, hr, hc⟩
    · exact .inl h
    · exact .inr ⟨g, off, T, cs, fz, hA, hg, ⟨hr.1, by omega⟩, hc⟩, fun i hi' => by
    obtain ⟨h1, h2, h3⟩ := h.inner i hi'
    exact ⟨h1, h2, fun g o hA hL => by have := h3 g o hA hL; omega⟩⟩
end
structure NO (w : World) (lo hi : Nat) (x : Int) (T T' : Nat) (A : Option Addr) (l c : Nat) (W : Nat → Nat → Int) (E : Nat → List Int) (SL : SlF) : Prop where
  lh : lo ≤ hi ∧ hi ≤ w.heap.size
  lc : l ≤ c
  row : c = 0 ∨ ∃ (g off : Nat) (cs : List Value), A = some ⟨g, off, none⟩ ∧ w.heap[g]? = some (.cells cs.toArray T) ∧ ((lo ≤ g ∧ g < hi) ∧ (g : Int) ≠ x) ∧ off + c * 13 ≤ cs.length ∧ ∀ i, i < l → evAt (fun k => cs[off + k]?) i (W i) (SL i).1 (E i).length (SL i).2
  inner : ∀ i, i < l → Ow w lo T' .i64 (SL i).1 (SL i).2 (E i) ∧ ∀ b o, (SL i).1 = some ⟨b, o, none⟩ → (b < hi ∧ (b : Int) ≠ x) ∧ ∀ i', i' < l → i' ≠ i → ∀ b' o', (SL i').1 = some ⟨b', o', none⟩ → b' ≠ b
theorem Ow.keep {w w' : World} {base T c : Nat} {k : IntKind} {A : Option Addr} {L : List Int} (h : Ow w base T k A c L) (hs : w.heap.size ≤ w'.heap.size) (hk : ∀ g o ob, A = some ⟨g, o, none⟩ → w.heap[g]? = some ob → w'.heap[g]? = some ob) : Ow w' base T k A c L := by
  obtain ⟨⟨h1, h2⟩, h3⟩ := h
  refine ⟨⟨h1, ?_⟩, Nat.le_trans h3 hs⟩
  rcases h2 with h2 | ⟨g, cap, cur, hv, hb, hg, r⟩
  · exact .inl h2
  · refine .inr ⟨g, cap, cur, hv, hb, hk g 0 _ ?_ hg, r⟩
    injection hv
section
variable {w w' : World} {lo hi T T' : Nat} {x : Int} {A : Option Addr} {l c : Nat} {W : Nat → Nat → Int} {E : Nat → List Int} {SL : SlF}
theorem NO.keep (h : NO w lo hi x T T' A l c W E SL) (hs : w.heap.size ≤ w'.heap.size) (hk : ∀ g ob, lo ≤ g → g < hi → (g : Int) ≠ x → w.heap[g]? = some ob → w'.heap[g]? = some ob) : NO w' lo hi x T T' A l c W E SL := by
  refine ⟨⟨h.lh.1, Nat.le_trans h.lh.2 hs⟩, h.lc, ?_, fun i hi' => ?_⟩
  · rcases h.row with h | ⟨g, off, cs, hA, hg, hr, hc⟩
    · exact .inl h
    · exact .inr ⟨g, off, cs, hA, hk g _ hr.1.1 hr.1.2 hr.2 hg, hr, hc⟩
  · obtain ⟨h1, h2⟩ := h.inner i hi'
    exact ⟨h1.keep hs fun g o ob hA hg => hk g ob (h1.ge hA) (h2 g o hA).1.1 (h2 g o hA).1.2 hg, h2⟩
theorem NO.ext (h : NO w lo hi x T T' A l c W E SL) (e : Ext w w') : NO w' lo hi x T T' A l c W E SL := h.keep e.size fun _ _ _ _ _ hg => e.blk hg
theorem NO.mid {lo' hi' : Nat} {x' : Int} (h : NO w lo hi x T T' A l c W E SL) (e : Mid lo' hi' x' w w') (hd : hi ≤ lo' ∨ hi' ≤ lo ∨ ((lo' : Int) = x ∧ hi' ≤ lo' + 1)) : NO w' lo hi x T T' A l c W E SL :=
  h.keep e.size fun g _ h1 h2 _ hg => (e.block g (lt_of_blk hg) (by omega)).trans hg
theorem NO.bl {base : Nat} (h : NO w lo hi x T T' A l c W E SL) (e : Below base w w') (hd : hi ≤ base) : NO w' lo hi x T T' A l c W E SL :=
  h.keep e.size fun g _ h1 h2 _ hg => (e.block g (by omega)).trans hg
theorem NO.st {b : Nat} (h : NO w lo hi x T T' A l c W E SL) (e : St b w w') (hd : hi ≤ b ∨ b < lo ∨ (b : Int) = x) : NO w' lo hi x T T' A l c W E SL :=
  h.keep (Nat.le_of_eq e.size.symm) fun g _ h1 h2 h3 hg => (e.block g (by omega)).trans hg
theorem NO.nr (h : NO w lo hi x T T' A l c W E SL) : NR w lo hi A l W E SL := by
  refine ⟨h.lh.2, ?_, fun i hi' => ?_⟩
  · rcases h.row with h0 | ⟨g, off, cs, hA, hg, hr, _, hc⟩
    · exact .inl (by have := h.lc; omega)
    · exact .inr ⟨g, off, T, cs.toArray, _, hA, hg, hr.1, fun i hi' => by simpa using hc i hi'⟩
  · obtain ⟨h1, h2⟩ := h.inner i hi'
    exact ⟨h1.cap, h1.wd.rdI, fun g o hA _ => ⟨h1.ge hA, (h2 g o hA).1.1⟩⟩
theorem NO.at (h : NO w lo hi x T T' A l c W E SL) (hp : 0 < c) : ∃ g o, A = some ⟨g, o, none⟩ := by
  rcases h.row with h0 | ⟨g, off, cs, hA, _⟩
  · omega
  · exact ⟨g, off, hA⟩
theorem NO.congr {W' : Nat → Nat → Int} {E' : Nat → List Int} (h : NO w lo hi x T T' A l c W E SL) (hW : ∀ i, i < l → ∀ j, j < 12 → W' i j = W i j) (hE : ∀ i, i < l → E' i = E i) : NO w lo hi x T T' A l c W' E' SL := by
  refine ⟨h.lh, h.lc, ?_, fun i hi' => by rw [hE i hi']; exact h.inner i hi'⟩
  rcases h.row with h | ⟨g, off, cs, hA, hg, hr, hl, hc⟩
  · exact .inl h
  · refine .inr ⟨g, off, cs, hA, hg, hr, hl, fun i hi' => ?_⟩
    obtain ⟨h1, h2⟩ := hc i hi'
    exact ⟨fun j hj => by rw [h1 j hj, hW i hi' j hj], by rw [hE i hi']; exact h2⟩
theorem NO.hi_mono {hi2 : Nat} (h : NO w lo hi x T T' A l c W E SL) (hh : hi ≤ hi2) (h2 : hi2 ≤ w.heap.size) : NO w lo hi2 x T T' A l c W E SL :=
  ⟨⟨by have := h.lh; omega, h2⟩, h.lc, by
    rcases h.row with h | ⟨g, off, cs, hA, hg, hr, hc⟩
    · exact .inl h
    · exact .inr ⟨g, off, cs, hA, hg, ⟨⟨hr.1.1, by omega⟩, hr.2⟩, hc⟩, fun i hi' => by
    obtain ⟨h1, h2⟩ := h.inner i hi'
    exact ⟨h1, fun b o hA => ⟨⟨by have := (h2 b o hA).1.1; omega, (h2 b o hA).1.2⟩, (h2 b o hA).2⟩⟩⟩
theorem Below.fresh {N : Nat} {w0 w : World} (h : Below N w0 w) : w0.heap.size ≤ w.heap.size := h.size
end
def updA {α : Type} (f : Nat → α) (i : Nat) (a : α) : Nat → α := fun k => if k = i then a else f k
theorem updA_same {α : Type} (f : Nat → α) (i : Nat) (a : α) : updA f i a i = a := if_pos rfl
theorem updA_ne {α : Type} (f : Nat → α) {i k : Nat} (a : α) (h : k ≠ i) : updA f i a k = f k := if_neg h
def evC (ws : Nat → Int) (A : Option Addr) (n c : Nat) : List Value := [.int .u64 (ws 0), .int .u64 (ws 1), .int .u64 (ws 2), .int .u64 (ws 3), .int .u64 (ws 4), .int .u64 (ws 5), .int .u64 (ws 6), .int .u64 (ws 7), .int .u64 (ws 8), .int .u64 (ws 9), .int .u64 (ws 10), .int .u64 (ws 11), .slice A n c]
theorem evC_at {ws : Nat → Int} {A : Option Addr} {n c j : Nat} (h : j < 12) : (evC ws A n c)[j]? = some (.int .u64 (ws j)) := by
  rcases (show j = 0 ∨ j = 1 ∨ j = 2 ∨ j = 3 ∨ j = 4 ∨ j = 5 ∨ j = 6 ∨ j = 7 ∨ j = 8 ∨ j = 9 ∨ j = 10 ∨ j = 11 by omega) with rfl | rfl | rfl | rfl | rfl | rfl | rfl | rfl | rfl | rfl | rfl | rfl <;> rfl
section
variable {P : Program} {n : Nat} {fr : Fr} {w : World} {ty : TypeId} {lo hi T T' : Nat} {x : Int} {A : Option Addr} {l c : Nat} {W : Nat → Nat → Int} {E : Nat → List Int} {SL : SlF}
theorem oe_makeN {t e : TypeId} {x1 y1 : Operand} {kl kc : IntKind} {m bytes T' : Nat} {x : Int} {j : Int} {z : Value} {K : Value → World → Prop} {W : Nat → Nat → Int} {E : Nat → List Int} {SL : SlF} (ht : P.underlying t = some (.slice e))
    (hi : (P.info? e).map (fun i => (i.zero, i.size, i.bytes)) = some (some z, 13, bytes)) (hz : z.cells.size = 13) (hx : EV n fr x1 (.int kl j)) (hy : EV n fr y1 (.int kc j)) (hj : j = (m : Nat)) (hb : bytes * m ≤ 281474976710656) (hl : m ≤ 281474976710656)
    (hx0 : x < (w.heap.size : Int)) (h : ∀ A' w', NO w' w.heap.size w'.heap.size x e T' A' 0 m W E SL → Ext w w' → K (.slice A' m m) w') : OE P n (.makeSlice t x1 y1) ty fr w K := by
  subst hj
  cases hin : P.info? e with
  | none => simp [hin] at hi
  | some inf =>
    simp only [hin, Option.map_some, Option.some.injEq, Prod.mk.injEq] at hi
    obtain ⟨h1, h2, h3⟩ := hi
    subst h3
    have hb' : (inf.bytes : Int) * (m : Int) ≤ 281474976710656 := by
      have h : ((inf.bytes * m : Nat) : Int) ≤ 281474976710656 := by omega
      rwa [Int.natCast_mul] at h
    have hr := run_make (P := P) w t e inf z ht hin h1 kl kc m m (by omega) (Int.le_refl _) hb' (by omega)
    simp only [Int.toNat_natCast, h2] at hr
    have hn := new_alloc w (.cells (madeCells z.cells (m * 13)) e)
    refine OE.of_run (fun _ _ _ _ => ?_) (h (some ⟨w.heap.size, 0, none⟩) _ ⟨⟨hn.ext.size, Nat.le_refl _⟩, Nat.zero_le _, .inr ⟨w.heap.size, 0, (madeCells z.cells (m * 13)).toList, rfl, by simpa using hn.blk, ⟨⟨Nat.le_refl _, by rw [hn.size]; omega⟩, by omega⟩, by simp [madeCells], fun i hi' => absurd hi' (Nat.not_lt_zero _)⟩, fun i hi' => absurd hi' (Nat.not_lt_zero _)⟩ hn.ext)
    unfold EV at hx hy
    simp [execOp, hx, hy, hr]
theorem evAt_set {cs l2 : List Value} {off i q : Nat} {ws : Nat → Int} {A : Option Addr} {n c : Nat} (h : evAt (fun k => cs[off + k]?) q ws A n c) (hs : ∀ k, (k < off + i * 13 ∨ off + i * 13 + 13 ≤ k) → l2[k]? = cs[k]?) (hne : q ≠ i) : evAt (fun k => l2[off + k]?) q ws A n c := by
  have : ∀ j, j < 13 → (off + (q * 13 + j) < off + i * 13 ∨ off + i * 13 + 13 ≤ off + (q * 13 + j)) := fun j hj => by omega
  exact ⟨fun j hj => (hs _ (this j (by omega))).trans (h.1 j hj), (hs _ (this 12 (by omega))).trans h.2⟩
theorem stC_get {cs vs l : List Value} {o : Nat} (h : stC cs o vs = some l) (hl : o + vs.length ≤ cs.length) : (∀ k, (k < o ∨ o + vs.length ≤ k) → l[k]? = cs[k]?) ∧ ∀ j, j < vs.length → l[o + j]? = vs[j]? := by
  have hm := stC_mid o cs vs hl
  rw [hm] at h
  obtain rfl := Option.some.inj h
  refine ⟨fun k hk => ?_, fun j hj => ?_⟩
  · rcases hk with hk | hk
    · rw [List.append_assoc, List.getElem?_append_left (by simp; omega), List.getElem?_take_of_lt hk]
    · rw [List.getElem?_append_right (by simp; omega), List.getElem?_drop]
      congr 1
      simp
      omega
  · rw [List.append_assoc, List.getElem?_append_right (by simp; omega)]
    have : o + j - (List.take o cs).length = j := by simp; omega
    rw [this, List.getElem?_append_left hj]
theorem oe_storeN {t : TypeId} {x1 y1 : Operand} {g o s : Nat} {ws : Nat → Int} {A' : Option Addr} {c' : Nat} {es : List Int} {vs : List Value} {K : Value → World → Prop} (hs : sizeB P t = some 13) (hx : EV n fr x1 (.pointer (some ⟨g, o + l * 13, none⟩))) (hy : EV n fr y1 (.agg vs.toArray))
    (hN : NO w lo hi x T T' (some ⟨g, o, none⟩) l c W E SL) (hT : T ≠ T') (hl : l < c) (hv : vs = evC ws A' es.length c') (hO : Ow w s T' .i64 A' c' es) (hs1 : hi ≤ s) (hxs : x < (s : Int)) (hW : ∀ j, j < 12 → W l j = ws j) (hE : E l = es)
    (h : ∀ w', NO w' lo w'.heap.size x T T' (some ⟨g, o, none⟩) (l + 1) c W E (updA SL l (A', c')) → Mid lo hi x w w' → K undef w') : OE P n (.store t x1 y1) ty fr w K := by
  rcases hN.row with h0 | ⟨g', off, cs, hA, hg, hr, hlen, hc⟩
  · omega
  obtain ⟨rfl, rfl⟩ : g = g' ∧ o = off := by simpa using hA
  have hvl : vs.length = 13 := by rw [hv]; rfl
  obtain ⟨l2, hst⟩ : ∃ l2, stC cs (o + l * 13) vs = some l2 := ⟨_, stC_mid _ _ _ (by rw [hvl]; omega)⟩
  obtain ⟨hk1, hk2⟩ := stC_get hst (by rw [hvl]; omega)
  have hone : vs.all (·.oneCell') = true := by rw [hv]; rfl
  refine oe_store hx hy hs (vs := vs) (by simp [Value.cells]) hvl hone hg hst fun w' e hb' => h w' ?_ (e.mid hr.1.1 hr.1.2 hr.2)
  have hl2 : l2.length = cs.length := by
    have hm := stC_mid (o + l * 13) cs vs (by rw [hvl]; omega)
    rw [hm] at hst
    obtain rfl := Option.some.inj hst
    simp
    omega
  have hbg : ∀ b o2 L c2 A2 s2, A2 = some ⟨b, o2, none⟩ → Ow w s2 T' .i64 A2 c2 L → b ≠ g := by
    intro b o2 L c2 A2 s2 hA2 hO2 he
    subst he; subst hA2
    rcases hO2.1.2 with ⟨hv2, _⟩ | ⟨g2, cap, cur, hv2, hb2, hg2, _⟩
    · injection hv2 with h1 _ _; cases h1
    · injection hv2 with h1 _ _
      injection h1 with h1
      injection h1 with h1 _ _
      subst h1
      rw [hg] at hg2
      injection hg2 with hg2
      injection hg2 with _ hg2 _
      exact hT hg2
  have hblt : ∀ b o2, A' = some ⟨b, o2, none⟩ → s ≤ b ∧ b < w.heap.size := fun b o2 hb => ⟨hO.ge hb, hO.lt b o2 hb⟩
  refine ⟨⟨by rw [e.size]; have := hN.lh; omega, Nat.le_refl _⟩, by omega, .inr ⟨g, o, l2, rfl, hb', ⟨⟨hr.1.1, by rw [e.size]; exact lt_of_blk hg⟩, hr.2⟩, by omega, fun i hi' => ?_⟩, fun i hi' => ?_⟩
  · by_cases hil : i = l
    · subst hil
      rw [updA_same]
      have hj : ∀ j, j < 13 → l2[o + (i * 13 + j)]? = vs[j]? := fun j hj => by rw [← Nat.add_assoc]; exact hk2 j (by omega)
      refine ⟨fun j hj' => ?_, ?_⟩
      · show l2[o + (i * 13 + j)]? = _
        rw [hj j (by omega), hv, evC_at hj', hW j hj']
      · show l2[o + (i * 13 + 12)]? = _
        rw [hj 12 (by omega), hv, hE]; rfl
    · rw [updA_ne _ _ hil]
      exact evAt_set (hc i (by omega)) (fun k hk => hk1 k (by rw [hvl]; exact hk)) hil
  · have hkeep : ∀ A2 c2 s2 L, Ow w s2 T' .i64 A2 c2 L → Ow w' s2 T' .i64 A2 c2 L := fun A2 c2 s2 L hO2 => hO2.keep (Nat.le_of_eq e.size.symm) fun b o2 ob hA2 hb2 => e.blk hb2 (hbg b o2 L c2 A2 s2 hA2 hO2)
    by_cases hil : i = l
    · subst hil
      rw [updA_same, hE]
      have h1 := hN.lh
      refine ⟨(hkeep _ _ _ _ hO).mono (by omega), fun b o2 hA2 => ⟨⟨by rw [e.size]; exact (hblt b o2 hA2).2, by have := (hblt b o2 hA2).1; omega⟩, fun i' hi2 hne b' o' hb' he => ?_⟩⟩
      rw [updA_ne _ _ hne] at hb'
      have := ((hN.inner i' (by omega)).2 b' o' hb').1.1
      have := (hblt b o2 hA2).1
      omega
    · rw [updA_ne _ _ hil]
      obtain ⟨h1, h2⟩ := hN.inner i (by omega)
      refine ⟨hkeep _ _ _ _ h1, fun b o2 hA2 => ⟨⟨by rw [e.size]; have := (h2 b o2 hA2).1.1; have := hN.lh; omega, (h2 b o2 hA2).1.2⟩, fun i' hi2 hne b' o' hb' => ?_⟩⟩
      by_cases hil2 : i' = l
      · subst hil2
        rw [updA_same] at hb'
        have := (hblt b' o' hb').1
        have := (h2 b o2 hA2).1.1
        omega
      · rw [updA_ne _ _ hil2] at hb'
        exact (h2 b o2 hA2).2 i' (by omega) hne b' o' hb'
end
end Go.Proofs.Ytmbpomcbdopgnaa.Fw
set_option linter.unusedVariables false
set_option linter.unusedSimpArgs false
namespace Go.Proofs.Ytmbpomcbdopgnaa.Fw
abbrev riseAt (L : List Int) (k : Nat) : Prop := (0 ≤ L.getD k 0 ∧ L.getD k 0 ≤ 39) ∧ (0 < k → L.getD (k - 1) 0 < L.getD k 0)
def riseP (L : List Int) : Prop := ∀ k, k < L.length → riseAt L k
instance (L : List Int) : Decidable (riseP L) := by unfold riseP; infer_instance
abbrev evC1 (Q : Nat → Ev) (i : Nat) : Prop := 0 < i → pc (Q (i - 1)).x (Q (i - 1)).y (Q (i - 1)).u (Q i).x (Q i).y (Q i).u < 0
abbrev evOkAt (Q : Nat → Ev) (i : Nat) : Prop := pOk (Q i).x (Q i).y (Q i).u ∧ 0 < (Q i).es.length ∧ riseP (Q i).es ∧ evC1 Q i
def evsOk (l : Nat) (Q : Nat → Ev) : Prop := l ≤ 200 ∧ ∀ i, i < l → evOkAt Q i
instance (l : Nat) (Q : Nat → Ev) : Decidable (evsOk l Q) := by unfold evsOk; infer_instance
theorem evsOk_ne {l : Nat} {Q : Nat → Ev} (h : evsOk l Q) : ∀ i, i < l → 0 < (Q i).es.length := fun i hi => (h.2 i hi).2.1
theorem evsOk_l {l : Nat} {Q : Nat → Ev} (h : evsOk l Q) : l ≤ 200 := h.1
theorem set_inv1 {M xs : List Int} {i : Nat} (hM : M.take i = xs.take i) (hl : i + 1 ≤ M.length) (hx : i + 1 ≤ xs.length) : (M.set i (xs.getD i 0)).take (i + 1) = xs.take (i + 1) := by
  have hs : (M.set i (xs.getD i 0)).take i = xs.take i := by rw [List.take_set, List.set_eq_of_length_le (by simp; omega), hM]
  refine take_eq1 hs (by simp; omega) hx ?_
  simp [List.getD_eq_getElem?_getD, show i < M.length by omega]
theorem szV_neg {l : Nat} {n : Int} (h : szV l n < 0) : szV l n = -1 := by
  unfold szV at h ⊢
  split
  · rfl
  · rename_i h2; rw [if_neg h2] at h; omega
def evF (l : Nat) (Q : Nat → Ev) : Prop := ∀ i, i < l → (fits (Q i).x ∧ fits (Q i).y ∧ fits (Q i).u) ∧ (Q i).es.length ≤ 1048576
theorem evF.x {l : Nat} {Q : Nat → Ev} (h : evF l Q) {i : Nat} (hi : i < l) : fits (Q i).x := (h i hi).1.1
theorem evF.y {l : Nat} {Q : Nat → Ev} (h : evF l Q) {i : Nat} (hi : i < l) : fits (Q i).y := (h i hi).1.2.1
theorem evF.u {l : Nat} {Q : Nat → Ev} (h : evF l Q) {i : Nat} (hi : i < l) : fits (Q i).u := (h i hi).1.2.2
theorem evF.n {l : Nat} {Q : Nat → Ev} (h : evF l Q) {i : Nat} (hi : i < l) : (Q i).es.length ≤ 1048576 := (h i hi).2
theorem le_step {E : Nat → Nat} {i : Nat} {m : Nat} (h : ∀ k, k < i → E k ≤ m) (hi : E i ≤ m) : ∀ k, k < i + 1 → E k ≤ m := fun k hk => by
  rcases Nat.lt_or_ge k i with h1 | h1
  · exact h k h1
  · obtain rfl : k = i := by omega
    exact hi
theorem evs_of {l : Nat} {W : Nat → Nat → Int} (E : Nat → List Int) (h : ∀ i, i < l → ∀ j, j < 12 → 0 ≤ W i j ∧ W i j < 18446744073709551616) : ∃ Q : Nat → Ev, (∀ i, i < l → ∀ j, j < 12 → evW (Q i) j = W i j) ∧ (∀ i, (Q i).es = E i) ∧ ∀ i, i < l → fits (Q i).x ∧ fits (Q i).y ∧ fits (Q i).u := by
  have one : ∀ i, ∃ e : Ev, e.es = E i ∧ (i < l → (∀ j, j < 12 → evW e j = W i j) ∧ fits e.x ∧ fits e.y ∧ fits e.u) := by
    intro i
    by_cases hi : i < l
    · have hw := h i hi
      obtain ⟨x, fx, x3, x2, x1, x0⟩ := words_z (hw 0 (by decide)) (hw 1 (by decide)) (hw 2 (by decide)) (hw 3 (by decide))
      obtain ⟨y, fy, y3, y2, y1, y0⟩ := words_z (hw 4 (by decide)) (hw 5 (by decide)) (hw 6 (by decide)) (hw 7 (by decide))
      obtain ⟨u, fu, u3, u2, u1, u0⟩ := words_z (hw 8 (by decide)) (hw 9 (by decide)) (hw 10 (by decide)) (hw 11 (by decide))
      refine ⟨⟨x, y, u, E i⟩, rfl, fun _ => ⟨fun j hj => ?_, fx, fy, fu⟩⟩
      rcases (show j = 0 ∨ j = 1 ∨ j = 2 ∨ j = 3 ∨ j = 4 ∨ j = 5 ∨ j = 6 ∨ j = 7 ∨ j = 8 ∨ j = 9 ∨ j = 10 ∨ j = 11 by omega) with rfl | rfl | rfl | rfl | rfl | rfl | rfl | rfl | rfl | rfl | rfl | rfl
      · exact x3.symm
      · exact x2.symm
      · exact x1.symm
      · exact x0.symm
      · exact y3.symm
      · exact y2.symm
      · exact y1.symm
      · exact y0.symm
      · exact u3.symm
      · exact u2.symm
      · exact u1.symm
      · exact u0.symm
    · exact ⟨⟨0, 0, 0, E i⟩, rfl, fun hh => absurd hh hi⟩
  refine ⟨fun i => (one i).choose, fun i hi j hj => ((one i).choose_spec.2 hi).1 j hj, fun i => (one i).choose_spec.1, fun i hi => ((one i).choose_spec.2 hi).2⟩
end Go.Proofs.Ytmbpomcbdopgnaa.Fw
set_option linter.unusedVariables false
set_option linter.unusedSimpArgs false
namespace Go.Proofs.Ytmbpomcbdopgnaa.Fw
open Go Go.RowKit
section
variable {w : World} {lo hi : Nat} {A : Option Addr} {l : Nat} {W : Nat → Nat → Int} {E : Nat → List Int} {SL : SlF}
theorem NR.slA {g o : Nat} (h : NR w lo hi (some ⟨g, o, none⟩) l W E SL) {i : Nat} (hi' : i < l) {B : Option Addr} {c : Nat} (hB : B = (SL i).1) (hc : c = (SL i).2) : w.cell? ⟨g, o + (i * 13 + 12), none⟩ = some (.slice B (E i).length c) := by subst hB; subst hc; exact h.sl hi'
theorem NR.rdA (h : NR w lo hi A l W E SL) {i : Nat} (hi' : i < l) {B : Option Addr} (hB : B = (SL i).1) : RdI w .i64 B (E i) := by subst hB; exact h.rd hi'
theorem NR.evA {g o : Nat} (h : NR w lo hi (some ⟨g, o, none⟩) l W E SL) {i : Nat} (hi' : i < l) {B : Option Addr} {c : Nat} (hB : B = (SL i).1) (hc : c = (SL i).2) : ∀ (j : Nat) (v : Value), ([.int .u64 (W i 0), .int .u64 (W i 1), .int .u64 (W i 2), .int .u64 (W i 3), .int .u64 (W i 4), .int .u64 (W i 5), .int .u64 (W i 6), .int .u64 (W i 7), .int .u64 (W i 8), .int .u64 (W i 9), .int .u64 (W i 10), .int .u64 (W i 11), .slice B (E i).length c] : List Value)[j]? = some v → w.cell? ⟨g, (o + i * 13) + j, none⟩ = some v := by subst hB; subst hc; exact h.ev hi'
end
section
variable {H : Type} {enc : TypeId × Value → H} {P : Program} {w : World} {base : Nat} {spare : Nat → Bool} {held : Bool}
theorem ok_rowE {H : Type} {enc : TypeId × Value → H} {P : Program} {w : World} {r : Reach} {base : Nat} {spare : Nat → Bool} {held : Bool} {t e d ts te : Nat} {us : List TypeId} {v : Value} {dd : DataW H} {pp : List MemPlace} (ht : P.underlying t = some (.slice e)) (hf : flatC P d e = some us) (hC : P.cellsOf e = 13) (hm : us.length = 13)
    (hk : (us.take 12).all (fun u => isIntK P .u64 u) = true) (hs : us[12]? = some ts) (hts : P.underlying ts = some (.slice te)) (hte : P.underlying te = some (.int .i64)) (hce : P.cellsOf te = 1)
    (ho : Value.okWide P w r base t v) (h : DataW.Trod enc P w 0 spare held t v dd pp) :
    ∃ (A : Option Addr) (l c : Nat) (W : Nat → Nat → Int) (E : Nat → List Int) (SL : SlF), v = .slice A l c ∧ l ≤ c ∧ c ≤ 9223372036854775807 ∧ NR w 0 w.heap.size A l W E SL ∧ (∀ i, i < l → (SL i).2 ≤ 9223372036854775807) ∧ ∀ i, i < l → ∀ j, j < 12 → 0 ≤ W i j ∧ W i j < 18446744073709551616 := by
  obtain ⟨fuel, hf'⟩ := h
  have hv : v.cells.toList = [v] := by
    unfold Value.okWide at ho
    rw [ht] at ho
    simp only at ho
    unfold Cell.okWide at ho
    rw [ht] at ho
    simp only at ho
    unfold Cell.ok at ho
    rw [ht] at ho
    cases v <;> simp only at ho <;> rfl
  rw [hv] at hf'
  rcases Go.Deep.open_slice ht hf' with ⟨h1, h2⟩ | ⟨a, len, cap, mm, nn, D, Pl, h1, hb, hl, hcap, hmm, hx, hi⟩
  · obtain rfl : v = .slice none 0 0 := by simpa using h1
    exact ⟨none, 0, 0, fun _ _ => 0, fun _ => [], fun _ => (none, 0), rfl, Nat.le_refl _, Nat.zero_le _, ⟨Nat.le_refl _, .inl rfl, fun i hi => absurd hi (Nat.not_lt_zero _)⟩, fun i hi => absurd hi (Nat.not_lt_zero _), fun i hi => absurd hi (Nat.not_lt_zero _)⟩
  · obtain rfl : v = .slice (some a) len cap := by simpa using h1
    have hlm : len ≤ mm := by rw [hmm]; split <;> omega
    have flt : flatC P 1 te = some [te] := by simp only [flatC, hte, hce, if_true]
    have one : ∀ i, ∃ (ws : Nat → Int) (B : Option Addr) (n c : Nat) (L : List Int), i < len → evAt (fun k => w.cell? (a.add k)) i ws B n c ∧ n ≤ c ∧ c ≤ maxLen ∧ L.length = n ∧ RdI w .i64 B L ∧ ∀ j, j < 12 → 0 ≤ ws j ∧ ws j < 18446744073709551616 := by
      intro i
      by_cases hil : i < len
      · obtain ⟨cs', hcs, htr⟩ := hi i (by omega)
        rw [hC] at hcs
        obtain ⟨h3, h4⟩ := trod_flat d e us nn [] cs' _ hf htr
        obtain ⟨_, hcl, hat⟩ := World.cells?_some hcs
        have wd : ∀ j, ∃ z : Int, j < 12 → w.cell? (a.add (i * 13 + j)) = some (.int .u64 z) ∧ 0 ≤ z ∧ z < 18446744073709551616 := by
          intro j
          by_cases hj : j < 12
          · obtain ⟨u, hu⟩ : ∃ u, us[j]? = some u := ⟨us[j]'(by omega), List.getElem?_eq_getElem _⟩
            obtain ⟨v', m', y, h5, h6⟩ := h4 j u hu
            have hku : P.underlying u = some (.int .u64) := isIntK_spec (List.all_eq_true.1 hk u (List.mem_of_getElem? (i := j) (by rw [List.getElem?_take_of_lt hj]; exact hu)))
            obtain ⟨z, h7, h8, h9⟩ := DataW.trod_int hku h6
            refine ⟨z, fun _ => ⟨?_, ?_⟩⟩
            · have h10 := hat j (by omega)
              rw [h5] at h10
              obtain rfl : v' = .int .u64 z := by simpa using h7
              rw [← Go.Deep.add_add]
              exact h10
            · simp only [Lit.wf, Bool.and_eq_true, decide_eq_true_eq] at h9
              exact u64_rg h9
          · exact ⟨0, fun h => absurd h hj⟩
        obtain ⟨v', m', y, h5, h6⟩ := h4 12 ts hs
        obtain ⟨B, n, c, L, rfl, h7, h8, h9, h10, _⟩ := open_ints (k := .i64) (m := 1) hts flt rfl (by decide) hce (by simp [isIntK, hte]) h6
        refine ⟨fun j => (wd j).choose, B, n, c, L, fun _ => ⟨⟨fun j hj => ((wd j).choose_spec hj).1, ?_⟩, h7, h8, by rw [h9, Nat.mul_one], h10, fun j hj => ((wd j).choose_spec hj).2⟩⟩
        have h11 := hat 12 (by omega)
        rw [h5] at h11
        show w.cell? (a.add (i * 13 + 12)) = _
        rw [← Go.Deep.add_add]
        exact h11
      · exact ⟨fun _ => 0, none, 0, 0, [], fun h => absurd h hil⟩
    let W : Nat → Nat → Int := fun i => (one i).choose
    let SLn : Nat → Option Addr := fun i => (one i).choose_spec.choose
    have hsp : ∀ i, i < len → ∃ (B : Option Addr) (n c : Nat) (L : List Int), evAt (fun k => w.cell? (a.add k)) i (W i) B n c ∧ n ≤ c ∧ c ≤ maxLen ∧ L.length = n ∧ RdI w .i64 B L ∧ ∀ j, j < 12 → 0 ≤ W i j ∧ W i j < 18446744073709551616 := fun i hil => by
      obtain ⟨B, n, c, L, h⟩ := (one i).choose_spec
      exact ⟨B, n, c, L, h hil⟩
    have two : ∀ i, ∃ (p : (Option Addr × Nat) × List Int), i < len → evAt (fun k => w.cell? (a.add k)) i (W i) p.1.1 p.2.length p.1.2 ∧ p.2.length ≤ p.1.2 ∧ p.1.2 ≤ maxLen ∧ RdI w .i64 p.1.1 p.2 := fun i => by
      by_cases hil : i < len
      · obtain ⟨B, n, c, L, h1, h2, h3, h4, h5, _⟩ := hsp i hil
        subst h4
        exact ⟨((B, c), L), fun _ => ⟨h1, h2, h3, h5⟩⟩
      · exact ⟨((none, 0), []), fun h => absurd h hil⟩
    refine ⟨some a, len, cap, W, fun i => (two i).choose.2, fun i => (two i).choose.1, rfl, hl, by simpa [maxLen] using hcap, ⟨Nat.le_refl _, ?_, fun i hil => ?_⟩, fun i hil => by simpa [maxLen] using ((two i).choose_spec hil).2.2.1, fun i hil => by obtain ⟨B, n, c, L, h1, h2, h3, h4, h5, h6⟩ := hsp i hil; exact h6⟩
    · by_cases h0 : len = 0
      · exact .inl h0
      · right
        obtain ⟨h1, _⟩ := (two 0).choose_spec (by omega)
        have hz0 := h1.1 0 (by decide)
        simp only [Nat.zero_mul, Nat.add_zero] at hz0
        have hz0' : w.cell? a = some (.int .u64 (W 0 0)) := hz0
        obtain ⟨g, off, spot⟩ := a
        unfold World.cell? at hz0'
        simp only at hz0'
        cases hg : w.heap[g]? with
        | none => rw [hg] at hz0'; cases hz0'
        | some ob =>
          rw [hg] at hz0'
          cases ob with
          | cells cs T fz =>
            simp only at hz0'
            cases spot with
            | some s => simp at hz0'
            | none =>
              refine ⟨g, off, T, cs, fz, rfl, hg, ⟨Nat.zero_le _, lt_of_blk hg⟩, fun i hil => ?_⟩
              have hcell : ∀ k, w.cell? ((⟨g, off, none⟩ : Addr).add k) = cs[off + k]? := fun k => by rw [addr_addn]; exact cell_of_row w g (off + k) cs T fz hg
              obtain ⟨⟨h2, h3⟩, _⟩ := (two i).choose_spec hil
              exact ⟨fun j hj => (hcell _).symm.trans (h2 j hj), (hcell _).symm.trans h3⟩
          | _ => cases hz0'
    · obtain ⟨h1, h2, h3, h4⟩ := (two i).choose_spec hil
      refine ⟨h2, h4, fun g o hA hL => ⟨Nat.zero_le _, ?_⟩⟩
      exact RdI.lt h4 (List.length_pos_iff.2 hL) g o hA
end
end Go.Proofs.Ytmbpomcbdopgnaa.Fw
set_option linter.unusedVariables false
set_option linter.unusedSimpArgs false
namespace Go.Proofs.Ytmbpomcbdopgnaa.Fw
open Go Go.RowKit
structure NG (w : World) (lo hi T T' : Nat) (A : Option Addr) (l c : Nat) (W : Nat → Nat → Int) (E : Nat → List Int) (SL : SlF) : Prop where
  lh : lo ≤ hi ∧ hi ≤ w.heap.size
  rlt : ∀ g o, A = some ⟨g, o, none⟩ → g < hi
  own : ∃ vs : List Value, w.ownsRow lo T 13 (.slice A l c) l vs ∧ ∀ i, i < l → evAt (fun k => vs[k]?) i (W i) (SL i).1 (E i).length (SL i).2
  inner : ∀ i, i < l → Ow w lo T' .i64 (SL i).1 (SL i).2 (E i) ∧ ∀ b o, (SL i).1 = some ⟨b, o, none⟩ → b < hi ∧ ∀ i', i' < l → i' ≠ i → ∀ b' o', (SL i').1 = some ⟨b', o', none⟩ → b' ≠ b
theorem own_keepS {w w' : World} {base T n s : Nat} {v : Value} {xs : List Value} (h : w.ownsRow base T s v n xs) (hk : ∀ g o cap, v = .slice (some ⟨g, 0, none⟩) n cap → w.heap[g]? = some o → base ≤ g → w'.heap[g]? = some o) : w'.ownsRow base T s v n xs := by
  refine ⟨h.1, ?_⟩
  rcases h.2 with h | ⟨g, cap, cur, hv, hb, hg, r⟩
  · exact .inl h
  · exact .inr ⟨g, cap, cur, hv, hb, hk g _ cap hv hg hb, r⟩
section
variable {w w' : World} {lo hi T T' : Nat} {A : Option Addr} {l c : Nat} {W : Nat → Nat → Int} {E : Nat → List Int} {SL : SlF}
theorem NG.keep (h : NG w lo hi T T' A l c W E SL) (hs : w.heap.size ≤ w'.heap.size) (hk : ∀ g ob, lo ≤ g → g < hi → w.heap[g]? = some ob → w'.heap[g]? = some ob) : NG w' lo hi T T' A l c W E SL := by
  obtain ⟨vs, ho, hc⟩ := h.own
  refine ⟨⟨h.lh.1, Nat.le_trans h.lh.2 hs⟩, h.rlt, ⟨vs, own_keepS ho fun g o cap hv hg hb => hk g o hb (h.rlt g 0 (by injection hv)) hg, hc⟩, fun i hi' => ⟨(h.inner i hi').1.keep hs fun g o ob hA hg => hk g ob ((h.inner i hi').1.ge hA) ((h.inner i hi').2 g o hA).1 hg, (h.inner i hi').2⟩⟩
theorem NG.ext (h : NG w lo hi T T' A l c W E SL) (e : Ext w w') : NG w' lo hi T T' A l c W E SL := h.keep e.size fun _ _ _ _ hg => e.blk hg
theorem NG.bl {base : Nat} (h : NG w lo hi T T' A l c W E SL) (e : Below base w w') (hb : hi ≤ base) : NG w' lo hi T T' A l c W E SL := h.keep e.size fun g _ _ h2 hg => (e.block g (by omega)).trans hg
theorem NG.st {b : Nat} (h : NG w lo hi T T' A l c W E SL) (e : St b w w') (hb : hi ≤ b) : NG w' lo hi T T' A l c W E SL := h.keep (Nat.le_of_eq e.size.symm) fun g _ _ h2 hg => e.blk hg (by omega)
theorem NG.mono {hi2 : Nat} (h : NG w lo hi T T' A l c W E SL) (hh : hi ≤ hi2) (h2 : hi2 ≤ w.heap.size) : NG w lo hi2 T T' A l c W E SL :=
  ⟨⟨by have := h.lh; omega, h2⟩, fun g o hA => by have := h.rlt g o hA; omega, h.own, fun i hi' => ⟨(h.inner i hi').1, fun b o hA => ⟨by have := ((h.inner i hi').2 b o hA).1; omega, ((h.inner i hi').2 b o hA).2⟩⟩⟩
theorem NG.made {w w' : World} {b T T' : Nat} {W : Nat → Nat → Int} {E : Nat → List Int} {SL : SlF} (h : New w b (.cells #[] T) w') : NG w' b w'.heap.size T T' (some ⟨b, 0, none⟩) 0 0 W E SL :=
  ⟨⟨Nat.le_of_lt (lt_of_blk h.blk), Nat.le_refl _⟩, fun g o hA => by injection hA with hA; injection hA with hA _ _; subst hA; exact lt_of_blk h.blk, ⟨[], ⟨rfl, .inr ⟨b, 0, #[], rfl, Nat.le_refl _, h.blk, Nat.le_refl _, Nat.zero_le _, rfl, rfl⟩⟩, fun i hi => absurd hi (Nat.not_lt_zero _)⟩, fun i hi => absurd hi (Nat.not_lt_zero _)⟩
theorem NG.no (h : NG w lo hi T T' A l c W E SL) : NO w lo w.heap.size (-1) T T' A l l W E SL := by
  obtain ⟨vs, ho, hc⟩ := h.own
  refine ⟨⟨by have := h.lh; omega, Nat.le_refl _⟩, Nat.le_refl _, ?_, fun i hi' => ⟨(h.inner i hi').1, fun b o hA => ⟨⟨by have := ((h.inner i hi').2 b o hA).1; have := h.lh; omega, by omega⟩, ((h.inner i hi').2 b o hA).2⟩⟩⟩
  rcases ho.2 with ⟨hv, hn⟩ | ⟨g, cap, cur, hv, hb, hg, h1, h2, h3, h4⟩
  · exact .inl hn
  · injection hv with hA _ hcc
    refine .inr ⟨g, 0, cur.toList, hA, by simpa using hg, ⟨⟨hb, lt_of_blk hg⟩, by omega⟩, by simp; omega, fun i hi' => ?_⟩
    have hk : ∀ k, k < l * 13 → cur.toList[0 + k]? = vs[k]? := fun k hk => by rw [Nat.zero_add, ← h4, List.getElem?_take_of_lt hk]
    obtain ⟨h5, h6⟩ := hc i hi'
    exact ⟨fun j hj => (hk _ (by omega)).trans (h5 j hj), (hk _ (by omega)).trans h6⟩
theorem Ow.ne_row {s c2 b o g : Nat} {A2 : Option Addr} {L : List Int} {cs : Array Value} {fz : Nat × Nat} (hO : Ow w s T' .i64 A2 c2 L) (hT : T ≠ T') (hg : w.heap[g]? = some (.cells cs T fz)) (hA : A2 = some ⟨b, o, none⟩) : b ≠ g := by
  intro he
  subst he; subst hA
  rcases hO.1.2 with ⟨hv2, _⟩ | ⟨g2, cap, cur, hv2, hb2, hg2, _⟩
  · injection hv2 with h1 _ _; cases h1
  · injection hv2 with h1 _ _
    injection h1 with h1
    injection h1 with h1 _ _
    subst h1
    rw [hg] at hg2
    injection hg2 with hg2
    injection hg2 with _ hg2 _
    exact hT hg2
theorem NO.tail {x : Int} {g o X o0 : Nat} (h : NO w lo hi x T T' (some ⟨g, o, none⟩) l c W E SL) (hT : T ≠ T') (hl : 0 < l) (hX : (SL 0).1 = some ⟨X, o0, none⟩) : NO w lo hi X T T' (some ⟨g, o + 13, none⟩) (l - 1) (c - 1) (fun i => W (i + 1)) (fun i => E (i + 1)) (fun i => SL (i + 1)) := by
  refine ⟨h.lh, by have := h.lc; omega, ?_, fun i hi' => ?_⟩
  · rcases h.row with h0 | ⟨g', off, cs, hA, hg, hr, hlen, hc⟩
    · have := h.lc; omega
    · obtain ⟨rfl, rfl⟩ : g = g' ∧ o = off := by simpa using hA
      have hXg := (h.inner 0 hl).1.ne_row hT hg hX
      refine .inr ⟨g, o + 13, cs, rfl, hg, ⟨hr.1, by omega⟩, by have := h.lc; omega, fun i hi' => ?_⟩
      obtain ⟨h5, h6⟩ := hc (i + 1) (by omega)
      have e : ∀ k, o + 13 + (i * 13 + k) = o + ((i + 1) * 13 + k) := fun k => by omega
      exact ⟨fun j hj => by show cs[o + 13 + (i * 13 + j)]? = _; rw [e]; exact h5 j hj, by show cs[o + 13 + (i * 13 + 12)]? = _; rw [e]; exact h6⟩
  · obtain ⟨h1, h2⟩ := h.inner (i + 1) (by omega)
    refine ⟨h1, fun b o hA => ⟨⟨(h2 b o hA).1.1, ?_⟩, fun i' hi2 hne b' o' hb' => (h2 b o hA).2 (i' + 1) (by omega) (by omega) b' o' hb'⟩⟩
    have := (h2 b o hA).2 0 hl (by omega) X o0 hX
    omega
end
structure Sb (A : Option Addr) (w w' : World) : Prop where
  os : w'.os = w.os
  tape : w'.tape = w.tape
  output : w'.output = w.output
  size : w'.heap.size = w.heap.size
  block : ∀ k, (∀ o, A ≠ some ⟨k, o, none⟩) → w'.heap[k]? = w.heap[k]?
theorem Sb.refl (A : Option Addr) (w : World) : Sb A w w := ⟨rfl, rfl, rfl, rfl, fun _ _ => rfl⟩
theorem Sb.st {g o : Nat} {w w1 w2 : World} (h : Sb (some ⟨g, o, none⟩) w w1) (h2 : St g w1 w2) : Sb (some ⟨g, o, none⟩) w w2 :=
  ⟨h2.os.trans h.os, h2.tape.trans h.tape, h2.output.trans h.output, h2.size.trans h.size, fun k hk => (h2.block k (fun e => hk o (by rw [e]))).trans (h.block k hk)⟩
theorem Sb.mid {A : Option Addr} {X : Nat} {w w' : World} (h : Sb A w w') (hA : ∀ b o, A = some ⟨b, o, none⟩ → b = X) : Mid X (X + 1) (-1) w w' :=
  ⟨h.os, h.tape, h.output, Nat.le_of_eq h.size.symm, fun k _ hk => h.block k fun o he => by have := hA k o he; omega⟩
section
variable {P : Program} {n : Nat} {fr : Fr} {w : World} {ty : TypeId} {lo hi T T' : Nat} {x : Int} {A : Option Addr} {l c : Nat} {W : Nat → Nat → Int} {E : Nat → List Int} {SL : SlF}
theorem oe_storeOwS {t : TypeId} {x y : Operand} {base T c g o i : Nat} {k : IntKind} {L : List Int} {z : Int} {K : Value → World → Prop} (hs : sizeB P t = some 1) (hx : EV n fr x (.pointer (some ⟨g, o + i, none⟩))) (hy : EV n fr y (.int k z))
    (hO : Ow w base T k (some ⟨g, o, none⟩) c L) (hi : i < L.length) (h : ∀ w', Ow w' base T k (some ⟨g, o, none⟩) c (L.set i z) → Below base w w' → St g w w' → K undef w') : OE P n (.store t x y) ty fr w K := by
  obtain ⟨rfl, hbg⟩ := hO.off
  rw [Nat.zero_add] at hx
  rcases hO.1.2 with ⟨hv, hn⟩ | ⟨g', cap, cur, hv, hb, hg, h1, h2, h3, h4⟩
  · injection hv with hA _ _
    cases hA
  · injection hv with hA _ hc
    injection hA with hA
    injection hA with h5
    subst h5; subst hc
    have hlc : i < cur.toList.length := by simp; omega
    have hst : stC cur.toList i [.int k z] = some (cur.toList.set i (.int k z)) := by
      have := stC_mid i cur.toList [.int k z] (by simp at hlc ⊢; omega)
      rw [this, List.set_eq_take_append_cons_drop, if_pos hlc]
      simp
    refine oe_store hx hy hs rfl rfl rfl (cs := cur.toList) (T := T) (by simpa using hg) hst fun w' hs' hb' => h w' ⟨⟨by simp, .inr ⟨g, c, _, rfl, hb, hb', by simpa using h1, h2, by simpa using h3, ?_⟩⟩, by rw [hs'.size]; exact hO.2⟩
      ⟨hs'.os, hs'.tape, hs'.output, Nat.le_of_eq hs'.size.symm, fun j hj => hs'.block j (by omega)⟩ hs'
    simp only [List.length_set, Nat.mul_one] at h4 ⊢
    rw [List.take_set, h4, List.map_set]
def upW (W : Nat → Nat → Int) (i j : Nat) (z : Int) : Nat → Nat → Int := fun q r => if q = i ∧ r = j then z else W q r
theorem oe_storeWd {t : TypeId} {x1 y1 : Operand} {g o i j : Nat} {z : Int} {K : Value → World → Prop} (hs : sizeB P t = some 1) (hx : EV n fr x1 (.pointer (some ⟨g, o + (i * 13 + j), none⟩))) (hy : EV n fr y1 (.int .u64 z))
    (hN : NO w lo hi x T T' (some ⟨g, o, none⟩) l c W E SL) (hT : T ≠ T') (hi' : i < l) (hj : j < 12)
    (h : ∀ w', NO w' lo hi x T T' (some ⟨g, o, none⟩) l c (upW W i j z) E SL → Mid lo hi x w w' → K undef w') : OE P n (.store t x1 y1) ty fr w K := by
  have hlc := hN.lc
  rcases hN.row with h0 | ⟨g', off, cs, hA, hg, hr, hlen, hc⟩
  · omega
  obtain ⟨rfl, rfl⟩ : g = g' ∧ o = off := by simpa using hA
  have hin : o + (i * 13 + j) < cs.length := by
    have : i * 13 + 13 ≤ c * 13 := by omega
    omega
  obtain ⟨l2, hst⟩ : ∃ l2, stC cs (o + (i * 13 + j)) [.int .u64 z] = some l2 := ⟨_, stC_mid _ _ _ (by simp; omega)⟩
  obtain ⟨hk1, hk2⟩ := stC_get hst (by simp; omega)
  simp only [List.length_singleton] at hk1 hk2
  refine oe_store hx hy hs (vs := [.int .u64 z]) rfl rfl rfl hg hst fun w' e hb' => h w' ?_ (e.mid hr.1.1 hr.1.2 hr.2)
  have hl2 : l2.length = cs.length := by
    have hm := stC_mid (o + (i * 13 + j)) cs [.int .u64 z] (by simp; omega)
    rw [hm] at hst
    obtain rfl := Option.some.inj hst
    simp
    omega
  refine ⟨⟨hN.lh.1, by rw [e.size]; exact hN.lh.2⟩, hlc, .inr ⟨g, o, l2, rfl, hb', hr, by omega, fun q hq => ?_⟩, fun q hq => ?_⟩
  · obtain ⟨h5, h6⟩ := hc q hq
    refine ⟨fun r hr' => ?_, ?_⟩
    · show l2[o + (q * 13 + r)]? = some (.int .u64 (upW W i j z q r))
      unfold upW
      by_cases hqr : q = i ∧ r = j
      · obtain ⟨rfl, rfl⟩ := hqr
        rw [if_pos ⟨rfl, rfl⟩]
        simpa using hk2 0 (by decide)
      · rw [if_neg hqr]
        have hne : q * 13 + r ≠ i * 13 + j := fun he => hqr (by omega)
        exact (hk1 _ (by omega)).trans (h5 r hr')
    · have hne : q * 13 + 12 ≠ i * 13 + j := fun he => by omega
      exact (hk1 _ (by omega)).trans h6
  · obtain ⟨h1, h2⟩ := hN.inner q hq
    exact ⟨h1.keep (Nat.le_of_eq e.size.symm) fun b o2 ob hA2 hb2 => e.blk hb2 (h1.ne_row hT hg hA2), h2⟩
theorem NO.ow (h : NO w lo hi x T T' A l c W E SL) {i : Nat} (hi' : i < l) : Ow w lo T' .i64 (SL i).1 (SL i).2 (E i) := (h.inner i hi').1
theorem NO.marked {w' : World} {i : Nat} {L : List Int} (h : NO w lo hi x T T' A l c W E SL) (hT : T ≠ T') (hi' : i < l) (hS : Sb (SL i).1 w w') (hO : Ow w' lo T' .i64 (SL i).1 (SL i).2 L) (hL : L.length = (E i).length) :
    Mid lo hi x w w' ∧ NO w' lo hi x T T' A l c W (updA E i L) SL := by
  have hm : Mid lo hi x w w' := ⟨hS.os, hS.tape, hS.output, Nat.le_of_eq hS.size.symm, fun k _ hk => hS.block k fun o he => by
    have := (h.inner i hi').1.ge he
    have := ((h.inner i hi').2 k o he).1
    omega⟩
  refine ⟨hm, ⟨h.lh.1, by rw [hS.size]; exact h.lh.2⟩, h.lc, ?_, fun q hq => ?_⟩
  · rcases h.row with h0 | ⟨g, off, cs, hA, hg, hr, hlen, hc⟩
    · exact .inl h0
    · refine .inr ⟨g, off, cs, hA, (hS.block g fun o he => absurd rfl ((h.inner i hi').1.ne_row hT hg he)).trans hg, hr, hlen, fun q hq => ?_⟩
      have hE : (updA E i L q).length = (E q).length := by
        by_cases hqi : q = i
        · subst hqi; rw [updA_same, hL]
        · rw [updA_ne _ _ hqi]
      obtain ⟨h5, h6⟩ := hc q hq
      exact ⟨h5, by rw [hE]; exact h6⟩
  · by_cases hqi : q = i
    · subst hqi
      rw [updA_same]
      exact ⟨hO, (h.inner q hq).2⟩
    · rw [updA_ne _ _ hqi]
      obtain ⟨h1, h2⟩ := h.inner q hq
      exact ⟨h1.keep (Nat.le_of_eq hS.size.symm) fun b o ob hA hb => (hS.block b fun o' he => (h2 b o hA).2 i hi' (fun e => hqi e.symm) b o' he rfl).trans hb, h2⟩
theorem NG.sl {w : World} (h : NG w lo hi T T' A l c W E SL) : l ≤ c := by
  obtain ⟨vs, ho, _⟩ := h.own
  rcases ho.2 with ⟨hv, hn⟩ | ⟨g, cap, cur, hv, hb, hg, h1, _⟩
  · omega
  · injection hv with _ _ hc; omega
theorem Ow.some_of {w : World} {base T c : Nat} {k : IntKind} {A : Option Addr} {L : List Int} (h : Ow w base T k A c L) (hL : 0 < L.length) : ∃ g, A = some ⟨g, 0, none⟩ ∧ base ≤ g ∧ g < w.heap.size := by
  rcases h.1.2 with ⟨hv, hn⟩ | ⟨g, cap, cur, hv, hb, hg, _⟩
  · omega
  · injection hv with hA _ _
    exact ⟨g, hA, hb, lt_of_blk hg⟩
theorem own_sliceS {w : World} {base T n s : Nat} {v : Value} {xs : List Value} (h : w.ownsRow base T s v n xs) : ∃ A c, v = .slice A n c := by
  rcases h.2 with ⟨rfl, rfl⟩ | ⟨g, cap, cur, rfl, _⟩
  · exact ⟨_, _, rfl⟩
  · exact ⟨_, _, rfl⟩
theorem oe_appendN {t e : TypeId} {x1 y1 : Operand} {bytes g s c2 T2 c' : Nat} {z : Value} {ws : Nat → Int} {A' : Option Addr} {es : List Int} {vs : List Value} {K : Value → World → Prop} (ht : P.underlying t = some (.slice e))
    (hi' : (P.info? e).map (fun i => (i.zero, i.size, i.bytes)) = some (some z, 13, bytes)) (hz : z.cells.size = 13) (hx : EV n fr x1 (.slice A l c)) (hy : EV n fr y1 (.slice (some ⟨g, 0, none⟩) 1 c2))
    (hN : NG w lo hi e T' A l c W E SL) (hT : e ≠ T') (hg : w.heap[g]? = some (.cells vs.toArray T2)) (hv : vs = evC ws A' es.length c') (hO : Ow w s T' .i64 A' c' es) (hs : hi ≤ s)
    (hb : (l + 1) * bytes ≤ 140737488355328) (hl : l + 1 ≤ 140737488355328) (hW : ∀ j, j < 12 → W l j = ws j) (hE : E l = es)
    (h : ∀ A2 c2 w', NG w' lo w'.heap.size e T' A2 (l + 1) c2 W E (updA SL l (A', c')) → Mid lo hi (-1) w w' → K (.slice A2 (l + 1) c2) w') : OE P n (.call { callee := .builtin .append, args := #[x1, y1], argTypes := #[t, t] }) ty fr w K := by
  cases hin : P.info? e with
  | none => simp [hin] at hi'
  | some inf =>
    simp only [hin, Option.map_some, Option.some.injEq, Prod.mk.injEq] at hi'
    obtain ⟨h1, h2, h3⟩ := hi'
    obtain ⟨us, ho, hc⟩ := hN.own
    have hvl : vs.length = 13 := by rw [hv]; rfl
    obtain ⟨v', w', hr, hown, hgr, _⟩ := run_append_own (P := P) w lo t ty e inf z 13 bytes ht hin h1 h2 h3 hz (by decide) (.slice A l c) l us ho ⟨g, 0, none⟩ 1 c2 vs (by rw [hvl])
      (fun j u hj => by
        have ha : (⟨g, 0, none⟩ : Addr).add j = ⟨g, 0 + j, none⟩ := by unfold Addr.add; split <;> simp_all
        rw [ha, cell_of_row w g (0 + j) _ T2 _ hg, Nat.zero_add]
        simpa using hj) (fun u hu => by
        rw [hv] at hu
        simp only [evC, List.mem_cons, List.not_mem_nil, or_false] at hu
        rcases hu with rfl | rfl | rfl | rfl | rfl | rfl | rfl | rfl | rfl | rfl | rfl | rfl | rfl <;> rfl) (by simp only [maxLen]; omega) hb (by have := hN.lh; omega)
    obtain ⟨A2, c2', rfl⟩ := own_sliceS hown
    have hge : ∀ gg, (Value.slice A l c).ownBlock = some gg → lo ≤ gg := fun gg hgg => (ho.lt gg hgg).1
    have hlh := hN.lh
    have hkeep : ∀ A3 c3 s3 L, Ow w s3 T' .i64 A3 c3 L → Ow w' s3 T' .i64 A3 c3 L := fun A3 c3 s3 L hO3 => hO3.keep hgr.size fun b o2 ob hA3 hb3 => (hgr.block b (lt_of_blk hb3) (fun he => by
      rcases ho.2 with ⟨hv4, _⟩ | ⟨g4, cap, cur, hv4, hb4, hg4, _⟩
      · injection hv4 with hA4 _ _
        rw [hA4] at he
        simp [Value.ownBlock] at he
      · injection hv4 with hA4 _ _
        rw [hA4] at he
        simp only [Value.ownBlock, Option.some.injEq] at he
        exact absurd he (hO3.ne_row hT hg4 hA3))).trans hb3
    have hN' : NG w' lo w'.heap.size e T' A2 (l + 1) c2' W E (updA SL l (A', c')) := by
      refine ⟨⟨by have := hgr.size; omega, Nat.le_refl _⟩, fun g2 o2 hA2 => (hown.lt g2 (by rw [hA2]; rfl)).2, ⟨us ++ vs, hown, fun i hi2 => ?_⟩, fun i hi2 => ?_⟩
      · by_cases hil : i = l
        · subst hil
          rw [updA_same]
          have hk : ∀ k, (us ++ vs)[i * 13 + k]? = vs[k]? := fun k => by rw [List.getElem?_append_right (by rw [ho.1]; omega), ho.1]; congr 1; omega
          refine ⟨fun j hj => ?_, ?_⟩
          · show (us ++ vs)[i * 13 + j]? = _
            rw [hk, hv, evC_at hj, hW j hj]
          · show (us ++ vs)[i * 13 + 12]? = _
            rw [hk, hv, hE]; rfl
        · rw [updA_ne _ _ hil]
          obtain ⟨h5, h6⟩ := hc i (by omega)
          have hk : ∀ k, k < l * 13 → (us ++ vs)[k]? = us[k]? := fun k hk => List.getElem?_append_left (by rw [ho.1]; exact hk)
          exact ⟨fun j hj => (hk _ (by omega)).trans (h5 j hj), (hk _ (by omega)).trans h6⟩
      · by_cases hil : i = l
        · subst hil
          rw [updA_same, hE]
          refine ⟨(hkeep _ _ _ _ hO).mono (by omega), fun b o2 hA2 => ⟨by have := hO.lt b o2 hA2; have := hgr.size; omega, fun i' hi3 hne b' o' hb' he => ?_⟩⟩
          rw [updA_ne _ _ hne] at hb'
          have := ((hN.inner i' (by omega)).2 b' o' hb').1
          have := hO.ge hA2
          omega
        · rw [updA_ne _ _ hil]
          obtain ⟨h5, h6⟩ := hN.inner i (by omega)
          refine ⟨hkeep _ _ _ _ h5, fun b o2 hA2 => ⟨by have := (h6 b o2 hA2).1; have := hgr.size; omega, fun i' hi3 hne b' o' hb' => ?_⟩⟩
          by_cases hil2 : i' = l
          · subst hil2
            rw [updA_same] at hb'
            have := hO.ge hb'
            have := (h6 b o2 hA2).1
            omega
          · rw [updA_ne _ _ hil2] at hb'
            exact (h6 b o2 hA2).2 i' (by omega) hne b' o' hb'
    refine OE.of_run (fun _ _ _ _ => ?_) (h A2 c2' w' hN' ⟨hgr.os, hgr.tape, hgr.output, hgr.size, fun k hs hk => hgr.block k hs fun he => by
      cases A with
      | none => simp [Value.ownBlock] at he
      | some a =>
        obtain ⟨g3, o3, s3⟩ := a
        simp only [Value.ownBlock, Option.some.injEq] at he
        have h3 := hge g3 rfl
        rcases ho.2 with ⟨hv4, _⟩ | ⟨g4, cap, cur, hv4, hb4, hg4, _⟩
        · injection hv4 with hA4 _ _; cases hA4
        · injection hv4 with hA4 _ _
          have h4 := hN.rlt g4 0 hA4
          injection hA4 with hA4
          injection hA4 with hA4 _ _
          omega⟩)
    unfold EV at hx hy
    simp only [execOp, resolve, invoke, builtin, hx, hy, hr, List.map_toArray, List.map_cons, List.map_nil, Sem.run_bind, Sem.run_pure, Result.andThen_ok]
theorem oe_appendR {t e : TypeId} {x y : Operand} {k : IntKind} {A : Option Addr} {c base bytes g o c2 m : Nat} {L M : List Int} {K : Value → World → Prop} (ht : P.underlying t = some (.slice e))
    (hi : (P.info? e).map (fun i => (i.zero, i.size, i.bytes)) = some (some (.int k 0), 1, bytes)) (hx : EV n fr x (.slice A L.length c)) (hy : EV n fr y (.slice (some ⟨g, o, none⟩) m c2))
    (hO : Ow w base e k A c L) (hW : RdI w k (some ⟨g, o, none⟩) M) (hm : M.length = m) (hb : (L.length + m) * bytes ≤ 140737488355328) (hl : L.length + m ≤ 140737488355328)
    (h : ∀ A' c' w', Ow w' base e k A' c' (L ++ M) → Below base w w' → Bt e w w' → K (.slice A' (L ++ M).length c') w') : OE P n (.call { callee := .builtin .append, args := #[x, y], argTypes := #[t, t] }) ty fr w K := by
  cases hin : P.info? e with
  | none => simp [hin] at hi
  | some inf =>
    simp only [hin, Option.map_some, Option.some.injEq, Prod.mk.injEq] at hi
    obtain ⟨h1, h2, h3⟩ := hi
    subst hm
    obtain ⟨v', w', hr, hown, hgr, _⟩ := run_append_own (P := P) w base t ty e inf (.int k 0) 1 bytes ht hin h1 h2 h3 rfl (by decide) (.slice A L.length c) L.length _ hO.1 ⟨g, o, none⟩ M.length c2 (M.map (Value.int k)) (by simp)
      (fun j u hj => by
        have hjl : j < M.length := by have := (List.getElem?_eq_some_iff.1 hj).1; simpa using this
        have ha : (⟨g, o, none⟩ : Addr).add j = ⟨g, o + j, none⟩ := by unfold Addr.add; split <;> simp_all
        rw [ha, hW.cell hjl]
        rw [List.getElem?_map, List.getElem?_eq_getElem hjl] at hj
        simp only [Option.map_some, Option.some.injEq] at hj
        rw [← hj]
        simp [List.getD_eq_getElem?_getD, hjl]) (ints_oneCell k M) (by simp only [maxLen]; omega) hb hO.2
    obtain ⟨A', c', rfl⟩ := own_slice hown
    have hO' : Ow w' base e k A' c' (L ++ M) := by
      unfold Ow
      rw [List.length_append, List.map_append]
      exact ⟨hown, Nat.le_trans hO.2 hgr.size⟩
    have hr' : (Builtin.append_ #[t, t] ty #[.slice A L.length c, .slice (some ⟨g, o, none⟩) M.length c2]).run P w = .ok (.slice A' (L ++ M).length c') w' := by rw [List.length_append]; exact hr
    refine OE.of_run (fun _ _ _ _ => ?_) (h A' c' w' hO' (below_of_grown hgr hO.2 (own_row_ge hO.1)) (bt_of_grown hO hgr))
    unfold EV at hx hy
    simp only [execOp, resolve, invoke, builtin, hx, hy, hr', List.map_toArray, List.map_cons, List.map_nil, Sem.run_bind, Sem.run_pure, Result.andThen_ok]
end
theorem Ow.midX {w w' : World} {base T c lo' hi' : Nat} {x' : Int} {k : IntKind} {A : Option Addr} {L : List Int} (h : Ow w base T k A c L) (e : Mid lo' hi' x' w w') (hx : ∀ b o, A = some ⟨b, o, none⟩ → b < lo' ∨ hi' ≤ b ∨ (b : Int) = x') : Ow w' base T k A c L :=
  h.keep e.size fun b o ob hA hb => (e.block b (lt_of_blk hb) (hx b o hA)).trans hb
end Go.Proofs.Ytmbpomcbdopgnaa.Fw
set_option linter.unusedVariables false
set_option linter.unusedSimpArgs false
namespace Go.Proofs.Ytmbpomcbdopgnaa.Fw
def kAt (k : Int) (E : Nat → List Int) : Nat → Int
  | 0 => k
  | i + 1 => kAt k E i + 12 + (E i).length
theorem kAt_ge (k : Int) (E : Nat → List Int) : ∀ i, k ≤ kAt k E i
  | 0 => Int.le_refl _
  | i + 1 => by have := kAt_ge k E i; show k ≤ kAt k E i + 12 + (E i).length; omega
theorem kAt_le (k : Int) {E : Nat → List Int} {l : Nat} (h : ∀ q, q < l → (E q).length ≤ 1048576) : ∀ i, i ≤ l → kAt k E i ≤ k + 1048588 * (i : Int)
  | 0, _ => by show k ≤ _; omega
  | i + 1, hi => by have := kAt_le k h i (by omega); have := h i (by omega); show kAt k E i + 12 + (E i).length ≤ _; omega
theorem kAt_s (k : Int) (E : Nat → List Int) (i : Nat) : kAt k E (i + 1) = kAt k E i + 12 + (E i).length := rfl
def mkd (k : Int) (E : Nat → List Int) (l : Nat) (W' : Nat → Nat → Int) (E' : Nat → List Int) : Prop :=
  ∀ q, q < l → (∀ j : Nat, j < 12 → W' q j = kAt k E q + (j : Int)) ∧ E' q = mkL (kAt k E q + 12) (E q).length
theorem mkd_0 (k : Int) (E : Nat → List Int) (W' : Nat → Nat → Int) (E' : Nat → List Int) : mkd k E 0 W' E' := fun q hq => absurd hq (Nat.not_lt_zero _)
theorem upE_len {E E' : Nat → List Int} {i : Nat} {L : List Int} (h : ∀ q, (E' q).length = (E q).length) (hL : L.length = (E' i).length) : ∀ q, (updA E' i L q).length = (E q).length := fun q => by
  by_cases hq : q = i
  · subst hq; rw [updA_same, hL, h]
  · rw [updA_ne _ _ hq, h]
theorem mkd_step {k : Int} {E E' : Nat → List Int} {i : Nat} {W' : Nat → Nat → Int} {z0 z1 z2 z3 z4 z5 z6 z7 z8 z9 z10 z11 z12 : Int} (h : mkd k E i W' E') (hl : ∀ q, (E' q).length = (E q).length)
    (h0 : z0 = kAt k E i) (h1 : z1 = kAt k E i + 1) (h2 : z2 = kAt k E i + 2) (h3 : z3 = kAt k E i + 3) (h4 : z4 = kAt k E i + 4) (h5 : z5 = kAt k E i + 5) (h6 : z6 = kAt k E i + 6) (h7 : z7 = kAt k E i + 7) (h8 : z8 = kAt k E i + 8) (h9 : z9 = kAt k E i + 9) (h10 : z10 = kAt k E i + 10) (h11 : z11 = kAt k E i + 11) (h12 : z12 = kAt k E i + 12) :
    mkd k E (i + 1) (upW (upW (upW (upW (upW (upW (upW (upW (upW (upW (upW (upW W' i 0 z0) i 1 z1) i 2 z2) i 3 z3) i 4 z4) i 5 z5) i 6 z6) i 7 z7) i 8 z8) i 9 z9) i 10 z10) i 11 z11) (updA E' i (mkL z12 (E' i).length)) := by
  intro q hq
  by_cases hqi : q = i
  · subst hqi
    refine ⟨fun j hj => ?_, by rw [updA_same, hl, h12]⟩
    rcases (show j = 0 ∨ j = 1 ∨ j = 2 ∨ j = 3 ∨ j = 4 ∨ j = 5 ∨ j = 6 ∨ j = 7 ∨ j = 8 ∨ j = 9 ∨ j = 10 ∨ j = 11 by omega) with rfl | rfl | rfl | rfl | rfl | rfl | rfl | rfl | rfl | rfl | rfl | rfl <;> simp [upW] <;> omega
  · obtain ⟨h13, h14⟩ := h q (by omega)
    refine ⟨fun j hj => ?_, by rw [updA_ne _ _ hqi, h14]⟩
    rw [← h13 j hj]
    simp [upW, hqi]
theorem mkd_held {k z : Int} {E E' : Nat → List Int} {l i : Nat} {W' : Nat → Nat → Int} (h : mkd k E l W' E') (hl : ∀ q, (E' q).length = (E q).length) (hi : i < l) (hz : z = kAt k E i + 12) : E' i = mkL z (E' i).length := by
  rw [hl, hz]; exact (h i hi).2
def shE (Q : Nat → Ev) : Nat → Ev := fun i => Q (i + 1)
abbrev takS (l : Nat) (Q : Nat → Ev) : Prop := evsOk l Q ∧ 0 < l
def takE (l : Nat) (Q : Nat → Ev) : Ev := if takS l Q then Q 0 else ⟨0, 0, 0, []⟩
def takN (l : Nat) (Q : Nat → Ev) : Nat := if takS l Q then l - 1 else 0
theorem takE_t {l : Nat} {Q : Nat → Ev} (h : takS l Q) : takE l Q = Q 0 := if_pos h
theorem takE_f {l : Nat} {Q : Nat → Ev} (h : ¬ takS l Q) : takE l Q = ⟨0, 0, 0, []⟩ := if_neg h
theorem takN_t {l : Nat} {Q : Nat → Ev} (h : takS l Q) : takN l Q = l - 1 := if_pos h
theorem takN_f {l : Nat} {Q : Nat → Ev} (h : ¬ takS l Q) : takN l Q = 0 := if_neg h
theorem takN_le (l : Nat) (Q : Nat → Ev) : takN l Q ≤ l := by unfold takN; split <;> omega
theorem evF_sh {l : Nat} {Q : Nat → Ev} (h : evF l Q) : evF (takN l Q) (shE Q) := fun i hi => by
  by_cases hS : takS l Q
  · rw [takN_t hS] at hi; exact h (i + 1) (by omega)
  · rw [takN_f hS] at hi; omega
theorem evF_tak {l : Nat} {Q : Nat → Ev} (h : evF l Q) : (fits (takE l Q).x ∧ fits (takE l Q).y ∧ fits (takE l Q).u) ∧ (takE l Q).es.length ≤ 1048576 := by
  by_cases hS : takS l Q
  · rw [takE_t hS]; exact h 0 hS.2
  · rw [takE_f hS]; exact ⟨⟨fits0, fits0, fits0⟩, by decide⟩
end Go.Proofs.Ytmbpomcbdopgnaa.Fw
set_option linter.unusedVariables false
set_option linter.unusedSimpArgs false
namespace Go.Proofs.Ytmbpomcbdopgnaa.Fw
open Go Go.RowKit
def tlA (A : Option Addr) (m : Nat) : Option Addr := if m = 1 then A else A.map (·.add 13)
theorem NO.tl {w : World} {lo hi T T' : Nat} {A : Option Addr} {l : Nat} {W : Nat → Nat → Int} {E : Nat → List Int} {SL : SlF} {x : Int} {X o0 m : Nat} (h : NO w lo hi x T T' A l l W E SL) (hT : T ≠ T') (hl : 0 < l) (hX : (SL 0).1 = some ⟨X, o0, none⟩) (hm : l ≤ m) : NO w lo hi X T T' (tlA A m) (l - 1) (l - 1) (fun i => W (i + 1)) (fun i => E (i + 1)) (fun i => SL (i + 1)) := by
  obtain ⟨g, o, rfl⟩ := h.at hl
  have ht := h.tail hT hl hX
  unfold tlA
  by_cases hm1 : m = 1
  · rw [if_pos hm1]
    have hl1 : l - 1 = 0 := by omega
    exact ⟨ht.lh, Nat.le_refl _, .inl hl1, fun i hi' => ht.inner i hi'⟩
  · rw [if_neg hm1, Option.map_some, addr_addn]
    exact ht
theorem NO.nil {w : World} {lo hi T T' : Nat} {W : Nat → Nat → Int} {E : Nat → List Int} {SL : SlF} {x : Int} (h1 : lo ≤ hi) (h2 : hi ≤ w.heap.size) : NO w lo hi x T T' none 0 0 W E SL :=
  ⟨⟨h1, h2⟩, Nat.le_refl _, .inl rfl, fun i hi' => absurd hi' (Nat.not_lt_zero _)⟩
theorem Ow.stX {w w' : World} {base T c b : Nat} {k : IntKind} {A : Option Addr} {L : List Int} (h : Ow w base T k A c L) (e : St b w w') (hx : ∀ b' o, A = some ⟨b', o, none⟩ → b' ≠ b) : Ow w' base T k A c L :=
  h.keep (Nat.le_of_eq e.size.symm) fun b' o ob hA hb => e.blk hb (hx b' o hA)
theorem NO.lo_le {w : World} {lo lo2 hi T T' : Nat} {A : Option Addr} {l c : Nat} {W : Nat → Nat → Int} {E : Nat → List Int} {SL : SlF} {x : Int} (h : NO w lo hi x T T' A l c W E SL) (hl : lo2 ≤ lo) : NO w lo2 hi x T T' A l c W E SL :=
  ⟨⟨by have := h.lh; omega, h.lh.2⟩, h.lc, by
    rcases h.row with h0 | ⟨g, off, cs, hA, hg, hr, hlen, hc⟩
    · exact .inl h0
    · exact .inr ⟨g, off, cs, hA, hg, ⟨⟨by omega, hr.1.2⟩, hr.2⟩, hlen, hc⟩, fun i hi' => ⟨(h.inner i hi').1.mono hl, (h.inner i hi').2⟩⟩
section
variable {P : Program} {n : Nat} {fr : Fr} {w : World} {ty : TypeId}
theorem dv_slice1 {t e : TypeId} {x a : Operand} {A : Option Addr} {l c : Nat} {k : IntKind} (ht : P.underlying t = some (.slice e)) (hs : sizeB P e = some 13)
    (hx : EV n fr x (.slice A l c)) (ha : EV n fr a (.int k 1)) (h1 : 1 ≤ l) : DV P n (.slice t x (some a) none none) ty fr w (.slice (tlA A c) (l - 1) (c - 1)) := fun _ _ _ _ => by
  unfold EV at hx ha
  unfold sizeB at hs
  cases hin : P.info? e with
  | none => simp [hin] at hs
  | some inf =>
    have hsz : inf.size = 13 := by simpa [hin] using hs
    have h2 : (1 : Int) ≤ (l : Int) := by omega
    simp [execOp, hx, ha, Instr.sliceAt, underlying, ht, Instr.slice, Instr.sliceBounds, Instr.sliceBound, asIntOf, h1, h2, sizeOf, typeInfo, hin, hsz, tlA]
theorem dv_slice3 {t e : TypeId} {x a b m : Operand} {A : Option Addr} {l c : Nat} {k k' k'' : IntKind} {j j' : Int} (ht : P.underlying t = some (.slice e)) (hs : sizeB P e = some 13)
    (hx : EV n fr x (.slice A l c)) (ha : EV n fr a (.int k 1)) (hb : EV n fr b (.int k' j)) (hm : EV n fr m (.int k'' j')) (hj : j = (l : Nat)) (hj' : j' = (l : Nat)) (h1 : 1 ≤ l) (hc : l ≤ c) : DV P n (.slice t x (some a) (some b) (some m)) ty fr w (.slice (tlA A l) (l - 1) (l - 1)) := fun _ _ _ _ => by
  unfold EV at hx ha hb hm
  subst hj; subst hj'
  unfold sizeB at hs
  cases hin : P.info? e with
  | none => simp [hin] at hs
  | some inf =>
    have hsz : inf.size = 13 := by simpa [hin] using hs
    have h2 : (1 : Int) ≤ (l : Int) := by omega
    have h3 : (l : Int) ≤ (c : Int) := by omega
    simp [execOp, hx, ha, hb, hm, Instr.sliceAt, underlying, ht, Instr.slice, Instr.sliceBounds, Instr.sliceBound, asIntOf, h1, h2, h3, hc, sizeOf, typeInfo, hin, hsz, tlA]
end
end Go.Proofs.Ytmbpomcbdopgnaa.Fw
