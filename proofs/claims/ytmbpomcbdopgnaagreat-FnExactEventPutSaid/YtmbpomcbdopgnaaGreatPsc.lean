/- Walks and plain mathematics, packed by a program of this session: declarations that the rows reach. -/
import Derived.Laws.CopyRow
import Derived.Lib.AppendZerosOnto
import Derived.Lib.Overlaps
import Derived.Sort.Grow
import Derived.Maps.AppendAt
import Derived.Test.YtmbpomcbdopgnaaGreatPsb
set_option linter.unusedVariables false
set_option linter.unusedSimpArgs false
namespace Go.Proofs.YtmbpomcbdopgnaaGreat.Fw
open Go Go.RowKit
theorem Ow.mono {w : World} {base base' T c : Nat} {k : IntKind} {A : Option Addr} {L : List Int} (h : Ow w base T k A c L) (hb : base' ≤ base) : Ow w base' T k A c L := by
  obtain ⟨⟨h1, h2⟩, h3⟩ := h
  refine ⟨⟨h1, ?_⟩, Nat.le_trans hb h3⟩
  rcases h2 with h2 | ⟨g, cap, cur, hv, hbg, r⟩
  · exact .inl h2
  · exact .inr ⟨g, cap, cur, hv, Nat.le_trans hb hbg, r⟩
theorem Ow.nil0 {w : World} {base T : Nat} {k : IntKind} (hb : base ≤ w.heap.size) : Ow w base T k none 0 [] := ⟨⟨rfl, .inl ⟨rfl, rfl⟩⟩, hb⟩
theorem Wd.lt {w : World} {T : Nat} {k : IntKind} {A : Option Addr} {xs : List Int} (h : Wd w T k A xs) : ∀ g o, A = some ⟨g, o, none⟩ → g < w.heap.size := by
  intro g o hA
  rcases h with ⟨_, h⟩ | ⟨g', off, cs, fz, hA', hg, _⟩
  · rw [h] at hA; cases hA
  · rw [hA'] at hA
    injection hA with hA
    injection hA with h1 _ _
    rw [← h1]; exact lt_of_blk hg
theorem Wd.bl {w w' : World} {T base : Nat} {k : IntKind} {A : Option Addr} {xs : List Int} (h : Wd w T k A xs) (e : Below base w w') (hlt : ∀ g o, A = some ⟨g, o, none⟩ → g < base) : Wd w' T k A xs := by
  rcases h with h | ⟨g, off, cs, fz, hA, hg, hc⟩
  · exact .inl h
  · exact .inr ⟨g, off, cs, fz, hA, bl_blk e hg (hlt g off hA), hc⟩
theorem Ow.lt {w : World} {base T c : Nat} {k : IntKind} {A : Option Addr} {L : List Int} (h : Ow w base T k A c L) : ∀ g o, A = some ⟨g, o, none⟩ → g < w.heap.size := h.wd.lt
theorem Ow.bl {w w' : World} {base base' T c : Nat} {k : IntKind} {A : Option Addr} {L : List Int} (h : Ow w base T k A c L) (e : Below base' w w') (hlt : ∀ g o, A = some ⟨g, o, none⟩ → g < base') : Ow w' base T k A c L := by
  obtain ⟨⟨h1, h2⟩, h3⟩ := h
  refine ⟨⟨h1, ?_⟩, Nat.le_trans h3 e.size⟩
  rcases h2 with h2 | ⟨g, cap, cur, hv, hbg, hg, r⟩
  · exact .inl h2
  · injection hv with hA _ hc
    exact .inr ⟨g, cap, cur, by rw [hA, hc], hbg, bl_blk e hg (hlt g 0 hA), r⟩
theorem RdI.lt {w : World} {k : IntKind} {A : Option Addr} {L : List Int} (h : RdI w k A L) (hp : 0 < L.length) : ∀ g o, A = some ⟨g, o, none⟩ → g < w.heap.size := by
  intro g o hA
  rcases h with h | ⟨g', off, T, cs, fz, hA', hg, _⟩
  · have := congrArg List.length h; simp at this; subst this; simp at hp
  · rw [hA'] at hA
    injection hA with hA
    injection hA with h1 _ _
    rw [← h1]; exact lt_of_blk hg
end Go.Proofs.YtmbpomcbdopgnaaGreat.Fw
set_option linter.unusedVariables false
set_option linter.unusedSimpArgs false
namespace Go.Proofs.YtmbpomcbdopgnaaGreat.Fw
open Go Go.RowKit
structure Bx (b : Nat) (w w' : World) : Prop where
  os : w'.os = w.os
  tape : w'.tape = w.tape
  output : w'.output = w.output
  size : w.heap.size ≤ w'.heap.size
  block : ∀ k, k < w.heap.size → k ≠ b → w'.heap[k]? = w.heap[k]?
theorem Bx.refl (b : Nat) (w : World) : Bx b w w := ⟨rfl, rfl, rfl, Nat.le_refl _, fun _ _ _ => rfl⟩
theorem Bx.trans {b : Nat} {w w1 w2 : World} (h : Bx b w w1) (h2 : Bx b w1 w2) : Bx b w w2 :=
  ⟨h2.os.trans h.os, h2.tape.trans h.tape, h2.output.trans h.output, Nat.le_trans h.size h2.size, fun k hk hb => (h2.block k (Nat.lt_of_lt_of_le hk h.size) hb).trans (h.block k hk hb)⟩
theorem bx_blk {b k : Nat} {w w' : World} {o : Obj} (e : Bx b w w') (h : w.heap[k]? = some o) (hne : k ≠ b) : w'.heap[k]? = some o := (e.block k (lt_of_blk h) hne).trans h
theorem RdI.bx {b : Nat} {w w' : World} {k : IntKind} {A : Option Addr} {L : List Int} (h : RdI w k A L) (e : Bx b w w') (hne : L = [] ∨ ∀ g o, A = some ⟨g, o, none⟩ → g ≠ b) : RdI w' k A L := by
  rcases hne with h0 | hne
  · subst h0; exact .inl rfl
  · rcases h with h | ⟨g, off, T, cs, fz, hA, hg, hc⟩
    · exact .inl h
    · exact .inr ⟨g, off, T, cs, fz, hA, bx_blk e hg (hne g off hA), hc⟩
theorem RdI.ne {w : World} {k : IntKind} {A : Option Addr} {L : List Int} {b : Nat} (h : RdI w k A L) (hb : w.heap.size ≤ b) : L = [] ∨ ∀ g o, A = some ⟨g, o, none⟩ → g ≠ b := by
  by_cases h0 : L = []
  · exact .inl h0
  · refine .inr fun g o hA => ?_
    have := h.lt (List.length_pos_iff.2 h0) g o hA
    omega
theorem Wd.bx {w w' : World} {T T' b : Nat} {k : IntKind} {A : Option Addr} {xs : List Int} {cs' : Array Value} {fz' : Nat × Nat} (h : Wd w T k A xs) (e : Bx b w w') (hb : w.heap[b]? = some (.cells cs' T' fz')) (hT : T' ≠ T) : Wd w' T k A xs := by
  rcases h with h | ⟨g, off, cs, fz, hA, hg, hc⟩
  · exact .inl h
  · refine .inr ⟨g, off, cs, fz, hA, bx_blk e hg ?_, hc⟩
    intro he
    subst he
    rw [hg] at hb
    injection hb with hb
    injection hb with _ hb _
    exact hT hb.symm
theorem Num.bx {m T T' b s l c : Nat} {k : IntKind} {w w' : World} {neg : Bool} {A : Option Addr} {z : Int} {cs' : Array Value} {fz' : Nat × Nat} (h : Num m T k w neg A l c z s) (e : Bx b w w') (hb : w.heap[b]? = some (.cells cs' T' fz')) (hT : T' ≠ T) : Num m T k w' neg A l c z s := by
  obtain ⟨xs, h1, h2, h3, h4⟩ := h
  exact ⟨xs, h1, h2, h3.bx e hb hT, h4⟩
theorem Wc.bx {m T T' b l c : Nat} {k : IntKind} {w w' : World} {A : Option Addr} {x : Int} {cs' : Array Value} {fz' : Nat × Nat} (h : Wc m T k w A l c x) (e : Bx b w w') (hb : w.heap[b]? = some (.cells cs' T' fz')) (hT : T' ≠ T) : Wc m T k w' A l c x := by
  obtain ⟨xs, h1, h2, h3, h4⟩ := h
  exact ⟨xs, h1, h2, h3.bx e hb hT, h4⟩
theorem Ws.bx {m T T' b l c : Nat} {k : IntKind} {w w' : World} {A : Option Addr} {x : Int} {cs' : Array Value} {fz' : Nat × Nat} (h : Ws m T k w A l c x) (e : Bx b w w') (hb : w.heap[b]? = some (.cells cs' T' fz')) (hT : T' ≠ T) : Ws m T k w' A l c x := by
  obtain ⟨xs, h1, h2, h3, h4⟩ := h
  exact ⟨xs, h1, h2, h3.bx e hb hT, h4⟩
end Go.Proofs.YtmbpomcbdopgnaaGreat.Fw
set_option linter.unusedVariables false
set_option linter.unusedSimpArgs false
namespace Go.Proofs.YtmbpomcbdopgnaaGreat.Fw
open Go Go.RowKit
abbrev fz (z : Int) : Int := pkz (fits z) z
end Go.Proofs.YtmbpomcbdopgnaaGreat.Fw
set_option linter.unusedVariables false
set_option linter.unusedSimpArgs false
namespace Go.Proofs.YtmbpomcbdopgnaaGreat.Fw
open Go Go.RowKit
def Ors (w : World) (base T : Nat) (A : Option Addr) (c : Nat) (L : List (List Int)) : Prop := w.ownsRow base T 1 (.slice A L.length c) L.length (L.map fun s => Value.string (bOf s)) ∧ base ≤ w.heap.size
theorem Ors.ext {w w' : World} {base T c : Nat} {A : Option Addr} {L : List (List Int)} (h : Ors w base T A c L) (e : Ext w w') : Ors w' base T A c L := ⟨own_keep h.1 fun g o hg _ _ => e.blk hg, Nat.le_trans h.2 e.size⟩
theorem Ors.st {w w' : World} {base T T' b c : Nat} {A : Option Addr} {L : List (List Int)} {cs' : Array Value} {fz' : Nat × Nat} (h : Ors w base T A c L) (e : St b w w') (hb : w.heap[b]? = some (.cells cs' T' fz')) (hT : T' ≠ T) : Ors w' base T A c L :=
  ⟨own_keep h.1 fun g o hg _ ⟨cs, fz, ho⟩ => e.blk hg (fun he => by
    subst he; subst ho
    rw [hg] at hb
    injection hb with hb
    injection hb with _ hb _
    exact hT hb.symm), by rw [e.size]; exact h.2⟩
theorem Ors.cap {w : World} {base T c : Nat} {A : Option Addr} {L : List (List Int)} (h : Ors w base T A c L) : L.length ≤ c := by
  rcases h.1.2 with ⟨hv, hn⟩ | ⟨g, cap, cur, hv, hb, hg, h1, h2, h3, h4⟩
  · omega
  · injection hv with _ _ hc
    omega
theorem Ors.at {w : World} {base T c : Nat} {A : Option Addr} {L : List (List Int)} (h : Ors w base T A c L) (hp : 0 < L.length) : ∃ g o, A = some ⟨g, o, none⟩ := by
  rcases h.1.2 with ⟨hv, hn⟩ | ⟨g, cap, cur, hv, hb, hg, h1, h2, h3, h4⟩
  · omega
  · injection hv with hA _ _
    exact ⟨_, _, hA⟩
theorem Ors.cell {w : World} {base T c g o : Nat} {L : List (List Int)} (h : Ors w base T (some ⟨g, o, none⟩) c L) {i : Nat} (hi : i < L.length) : w.cell? ⟨g, o + i, none⟩ = some (.string (bOf (L.getD i []))) := by
  rcases h.1.2 with ⟨hv, hn⟩ | ⟨g', cap, cur, hv, hb, hg, h1, h2, h3, h4⟩
  · omega
  · injection hv with hA _ hc
    injection hA with hA
    injection hA with h5 h6 _
    subst h5; subst h6
    rw [Nat.zero_add, cell_of_row w g i cur T _ hg]
    have h5 : (cur.toList.take (L.length * 1))[i]? = (L.map fun s => Value.string (bOf s))[i]? := by rw [h4]
    rw [List.getElem?_take_of_lt (by omega), List.getElem?_map, List.getElem?_eq_getElem hi] at h5
    simpa [List.getD_eq_getElem?_getD, List.getElem?_eq_getElem hi] using h5
theorem Ors.off {w : World} {base T c g o : Nat} {L : List (List Int)} (h : Ors w base T (some ⟨g, o, none⟩) c L) : o = 0 ∧ base ≤ g := by
  rcases h.1.2 with ⟨hv, hn⟩ | ⟨g', cap, cur, hv, hb, hg, h1, h2, h3, h4⟩
  · injection hv with hA _ _
    cases hA
  · injection hv with hA _ hc
    injection hA with hA
    injection hA with h5 h6 h7
    subst h5
    exact ⟨h6, hb⟩
theorem Ors.full {w' : World} {b T : Nat} {L : List (List Int)} {l : List Value} (h : w'.heap[b]? = some (.cells l.toArray T)) (hl : l = L.map fun s => Value.string (bOf s)) (hc : L.length ≤ 281474976710656) : Ors w' b T (some ⟨b, 0, none⟩) L.length L := by
  subst hl
  exact ⟨⟨by simp, .inr ⟨b, L.length, _, rfl, Nat.le_refl _, h, Nat.le_refl _, by simp only [maxLen]; omega, by simp, by simp [List.take_of_length_le]⟩⟩, Nat.le_of_lt (lt_of_blk h)⟩
theorem Ors.bl {w w' : World} {base base' T c : Nat} {A : Option Addr} {L : List (List Int)} (h : Ors w base T A c L) (e : Below base' w w') (hlt : ∀ g o, A = some ⟨g, o, none⟩ → g < base') : Ors w' base T A c L := by
  obtain ⟨⟨h1, h2⟩, h3⟩ := h
  refine ⟨⟨h1, ?_⟩, Nat.le_trans h3 e.size⟩
  rcases h2 with h2 | ⟨g, cap, cur, hv, hbg, hg, r⟩
  · exact .inl h2
  · injection hv with hA _ hc
    exact .inr ⟨g, cap, cur, by rw [hA, hc], hbg, bl_blk e hg (hlt g 0 hA), r⟩
end Go.Proofs.YtmbpomcbdopgnaaGreat.Fw
set_option linter.unusedVariables false
set_option linter.unusedSimpArgs false
namespace Go.Proofs.YtmbpomcbdopgnaaGreat.Fw
def szV (l : Nat) (n : Int) : Int := if n - l < 0 then -1 else n - l
theorem szV_rg {l : Nat} {n : Int} (h : ¬ szV l n < 0) : (l : Int) ≤ n := by
  unfold szV at h; split at h <;> omega
theorem take_eq {xs ys : List Int} {i m : Nat} (h : xs.take i = ys.take i) (hx : i + m ≤ xs.length) (hy : i + m ≤ ys.length) (hj : ∀ j, j < m → xs.getD (i + j) 0 = ys.getD (i + j) 0) : xs.take (i + m) = ys.take (i + m) := by
  rw [List.take_add, List.take_add, h]
  congr 1
  apply List.ext_getElem (by simp; omega)
  intro j h1 h2
  simp at h1 h2
  have := hj j (by omega)
  simpa [List.getD_eq_getElem?_getD, show i + j < xs.length by omega, show i + j < ys.length by omega] using this
theorem take_eq1 {xs ys : List Int} {i : Nat} (h : xs.take i = ys.take i) (hx : i + 1 ≤ xs.length) (hy : i + 1 ≤ ys.length) (h0 : xs.getD i 0 = ys.getD i 0) : xs.take (i + 1) = ys.take (i + 1) :=
  take_eq h hx hy fun j hj => by obtain rfl : j = 0 := by omega
                                 exact h0
theorem take_all {xs ys : List Int} {i : Nat} (h : xs.take i = ys.take i) (hx : xs.length ≤ i) (hy : ys.length ≤ i) : xs = ys := by
  rwa [List.take_of_length_le hx, List.take_of_length_le hy] at h
abbrev segAt (xs : List Int) (i : Nat) : Prop := segOk (xs.getD (i * 4) 0) (xs.getD (i * 4 + 1) 0) (xs.getD (i * 4 + 2) 0) (xs.getD (i * 4 + 3) 0)
def segsOk (l : Nat) (xs : List Int) : Prop := ∀ k, k < l → segAt xs k
instance (l : Nat) (xs : List Int) : Decidable (segsOk l xs) := by unfold segsOk; infer_instance
theorem all_step {P : Nat → Prop} {i : Nat} (h : ∀ k, k < i → P k) (hi : P i) : ∀ k, k < i + 1 → P k := fun k hk => by
  rcases Nat.lt_or_ge k i with h1 | h1
  · exact h k h1
  · obtain rfl : k = i := by omega
    exact hi
end Go.Proofs.YtmbpomcbdopgnaaGreat.Fw
set_option linter.unusedVariables false
set_option linter.unusedSimpArgs false
namespace Go.Proofs.YtmbpomcbdopgnaaGreat.Fw
def hitS (l : Nat) (xs : List Int) (x y u : Int) : Prop := (l ≤ 40 ∧ segsOk l xs) ∧ pOk x y u
instance (l : Nat) (xs : List Int) (x y u : Int) : Decidable (hitS l xs x y u) := by unfold hitS; infer_instance
def mkL (k : Int) (n : Nat) : List Int := (List.range n).map fun (i : Nat) => k + (i : Int)
theorem mkL_len (k : Int) (n : Nat) : (mkL k n).length = n := by simp [mkL]
theorem mkL_getD {k : Int} {n i : Nat} (h : i < n) : (mkL k n).getD i 0 = k + i := by simp [mkL, List.getD_eq_getElem?_getD, h]
theorem mkL_step {M : List Int} {k : Int} {n i : Nat} (h : M.take i = (mkL k n).take i) (hl : M.length = n) (hi : i < n) : (M.set i (k + i)).take (i + 1) = (mkL k n).take (i + 1) := by
  have hs : (M.set i (k + i)).take i = (mkL k n).take i := by rw [List.take_set, List.set_eq_of_length_le (by simp; omega), h]
  refine take_eq1 hs (by simp; omega) (by simp [mkL_len]; omega) ?_
  rw [mkL_getD hi]
  simp [List.getD_eq_getElem?_getD, hl, hi]
end Go.Proofs.YtmbpomcbdopgnaaGreat.Fw
set_option linter.unusedVariables false
set_option linter.unusedSimpArgs false
namespace Go.Proofs.YtmbpomcbdopgnaaGreat.Fw
open Go Go.RowKit
structure Ev where
  x : Int
  y : Int
  u : Int
  es : List Int
def evW (e : Ev) : Nat → Int
  | 0 => wv3 e.x
  | 1 => wv2 e.x
  | 2 => wv1 e.x
  | 3 => wv0 e.x
  | 4 => wv3 e.y
  | 5 => wv2 e.y
  | 6 => wv1 e.y
  | 7 => wv0 e.y
  | 8 => wv3 e.u
  | 9 => wv2 e.u
  | 10 => wv1 e.u
  | _ => wv0 e.u
abbrev SlF := Nat → Option Addr × Nat
def evAt (cs : Nat → Option Value) (i : Nat) (ws : Nat → Int) (A : Option Addr) (n c : Nat) : Prop :=
  (∀ j, j < 12 → cs (i * 13 + j) = some (.int .u64 (ws j))) ∧ cs (i * 13 + 12) = some (.slice A n c)
structure NR (w : World) (lo hi : Nat) (A : Option Addr) (l : Nat) (W : Nat → Nat → Int) (E : Nat → List Int) (SL : SlF) : Prop where
  lh : hi ≤ w.heap.size
  row : l = 0 ∨ ∃ (g off T : Nat) (cs : Array Value) (fz : Nat × Nat), A = some ⟨g, off, none⟩ ∧ w.heap[g]? = some (.cells cs T fz) ∧ (lo ≤ g ∧ g < hi) ∧ ∀ i, i < l → evAt (fun k => cs[off + k]?) i (W i) (SL i).1 (E i).length (SL i).2
  inner : ∀ i, i < l → (E i).length ≤ (SL i).2 ∧ RdI w .i64 (SL i).1 (E i) ∧ ∀ g o, (SL i).1 = some ⟨g, o, none⟩ → E i ≠ [] → lo ≤ g ∧ g < hi
structure Mid (lo hi : Nat) (x : Int) (w w' : World) : Prop where
  os : w'.os = w.os
  tape : w'.tape = w.tape
  output : w'.output = w.output
  size : w.heap.size ≤ w'.heap.size
  block : ∀ k, k < w.heap.size → (k < lo ∨ hi ≤ k ∨ (k : Int) = x) → w'.heap[k]? = w.heap[k]?
theorem Mid.refl (lo hi : Nat) (x : Int) (w : World) : Mid lo hi x w w := ⟨rfl, rfl, rfl, Nat.le_refl _, fun _ _ _ => rfl⟩
theorem Mid.trans {lo hi : Nat} {x : Int} {w w1 w2 : World} (h : Mid lo hi x w w1) (h2 : Mid lo hi x w1 w2) : Mid lo hi x w w2 :=
  ⟨h2.os.trans h.os, h2.tape.trans h.tape, h2.output.trans h.output, Nat.le_trans h.size h2.size, fun k hs hk => (h2.block k (Nat.lt_of_lt_of_le hs h.size) hk).trans (h.block k hs hk)⟩
theorem Ext.mid {lo hi : Nat} {x : Int} {w w' : World} (h : Ext w w') : Mid lo hi x w w' := ⟨h.os, h.tape, h.output, h.size, fun k hs _ => h.block k hs⟩
theorem St.mid {lo hi b : Nat} {x : Int} {w w' : World} (h : St b w w') (h1 : lo ≤ b) (h2 : b < hi) (h3 : (b : Int) ≠ x) : Mid lo hi x w w' :=
  ⟨h.os, h.tape, h.output, Nat.le_of_eq h.size.symm, fun k _ hk => h.block k (by omega)⟩
theorem below_mid {N lo hi : Nat} {x : Int} {w0 w w' : World} (h : Below N w0 w) (hN : N ≤ lo) (hs : N ≤ w.heap.size) (e : Mid lo hi x w w') : Below N w0 w' :=
  h.trans ⟨e.os, e.tape, e.output, e.size, fun k hk => e.block k (by omega) (.inl (by omega))⟩
theorem RdI.keep {w w' : World} {k : IntKind} {A : Option Addr} {L : List Int} (h : RdI w k A L) (hk : ∀ g o ob, A = some ⟨g, o, none⟩ → L ≠ [] → w.heap[g]? = some ob → w'.heap[g]? = some ob) : RdI w' k A L := by
  rcases h with h | ⟨g, off, T, cs, fz, hA, hg, hc⟩
  · exact .inl h
  · by_cases hL : L = []
    · exact .inl (by rw [hL]; rfl)
    · exact .inr ⟨g, off, T, cs, fz, hA, hk g off _ hA hL hg, hc⟩
section
variable {w w' : World} {lo hi : Nat} {A : Option Addr} {l : Nat} {W : Nat → Nat → Int} {E : Nat → List Int} {SL : SlF}
theorem NR.keep (h : NR w lo hi A l W E SL) (hs : w.heap.size ≤ w'.heap.size) (hk : ∀ g ob, lo ≤ g → g < hi → w.heap[g]? = some ob → w'.heap[g]? = some ob) : NR w' lo hi A l W E SL := by
  refine ⟨Nat.le_trans h.lh hs, ?_, fun i hi' => ?_⟩
  · rcases h.row with h | ⟨g, off, T, cs, fz, hA, hg, hr, hc⟩
    · exact .inl h
    · exact .inr ⟨g, off, T, cs, fz, hA, hk g _ hr.1 hr.2 hg, hr, hc⟩
  · obtain ⟨h1, h2, h3⟩ := h.inner i hi'
    exact ⟨h1, h2.keep fun g o ob hA hL hg => hk g ob (h3 g o hA hL).1 (h3 g o hA hL).2 hg, h3⟩
theorem NR.ext (h : NR w lo hi A l W E SL) (e : Ext w w') : NR w' lo hi A l W E SL := h.keep e.size fun _ _ _ _ hg => e.blk hg
theorem NR.mid {lo' hi' : Nat} {x' : Int} (h : NR w lo hi A l W E SL) (e : Mid lo' hi' x' w w') (hd : hi ≤ lo' ∨ hi' ≤ lo) : NR w' lo hi A l W E SL :=
  h.keep e.size fun g _ h1 h2 hg => (e.block g (lt_of_blk hg) (by omega)).trans hg
theorem NR.bl {base : Nat} (h : NR w lo hi A l W E SL) (e : Below base w w') (hd : hi ≤ base) : NR w' lo hi A l W E SL :=
  h.keep e.size fun g _ h1 h2 hg => (e.block g (by omega)).trans hg
theorem NR.st {b : Nat} (h : NR w lo hi A l W E SL) (e : St b w w') (hd : hi ≤ b ∨ b < lo) : NR w' lo hi A l W E SL :=
  h.keep (Nat.le_of_eq e.size.symm) fun g _ h1 h2 hg => (e.block g (by omega)).trans hg
theorem NR.at (h : NR w lo hi A l W E SL) (hp : 0 < l) : ∃ g o, A = some ⟨g, o, none⟩ := by
  rcases h.row with h | ⟨g, off, T, cs, fz, hA, hg, hr, hc⟩
  · omega
  · exact ⟨g, off, hA⟩
theorem NR.cells {g o : Nat} (h : NR w lo hi (some ⟨g, o, none⟩) l W E SL) {i : Nat} (hi' : i < l) : evAt (fun k => w.cell? ⟨g, o + k, none⟩) i (W i) (SL i).1 (E i).length (SL i).2 := by
  rcases h.row with h | ⟨g', off, T, cs, fz, hA, hg, hr, hc⟩
  · omega
  · obtain ⟨rfl, rfl⟩ : g = g' ∧ o = off := by simpa using hA
    have hcell : ∀ k, w.cell? ⟨g, o + k, none⟩ = cs[o + k]? := fun k => cell_of_row w g (o + k) cs T fz hg
    obtain ⟨h1, h2⟩ := hc i hi'
    exact ⟨fun j hj => (hcell _).trans (h1 j hj), (hcell _).trans h2⟩
theorem NR.word {g o : Nat} (h : NR w lo hi (some ⟨g, o, none⟩) l W E SL) {i j : Nat} (hi' : i < l) (hj : j < 12) : w.cell? ⟨g, o + (i * 13 + j), none⟩ = some (.int .u64 (W i j)) := (h.cells hi').1 j hj
theorem NR.sl {g o : Nat} (h : NR w lo hi (some ⟨g, o, none⟩) l W E SL) {i : Nat} (hi' : i < l) : w.cell? ⟨g, o + (i * 13 + 12), none⟩ = some (.slice (SL i).1 (E i).length (SL i).2) := (h.cells hi').2
theorem NR.rd (h : NR w lo hi A l W E SL) {i : Nat} (hi' : i < l) : RdI w .i64 (SL i).1 (E i) := (h.inner i hi').2.1
theorem NR.cap (h : NR w lo hi A l W E SL) {i : Nat} (hi' : i < l) : (E i).length ≤ (SL i).2 := (h.inner i hi').1
theorem NR.pt {g o : Nat} (h : NR w lo hi (some ⟨g, o, none⟩) l W E SL) {i : Nat} (hi' : i < l) : ∀ (j : Nat) (v : Value), ([.int .u64 (W i 0), .int .u64 (W i 1), .int .u64 (W i 2), .int .u64 (W i 3), .int .u64 (W i 4), .int .u64 (W i 5), .int .u64 (W i 6), .int .u64 (W i 7), .int .u64 (W i 8), .int .u64 (W i 9), .int .u64 (W i 10), .int .u64 (W i 11)] : List Value)[j]? = some v → w.cell? ⟨g, (o + i * 13) + j, none⟩ = some v := by
  intro j v hj
  have hjl := (List.getElem?_eq_some_iff.1 hj).1
  simp only [List.length_cons, List.length_nil, Nat.zero_add] at hjl
  have h1 := h.word hi' (show j < 12 by omega)
  rw [Nat.add_assoc, h1, ← hj]
  rcases (show j = 0 ∨ j = 1 ∨ j = 2 ∨ j = 3 ∨ j = 4 ∨ j = 5 ∨ j = 6 ∨ j = 7 ∨ j = 8 ∨ j = 9 ∨ j = 10 ∨ j = 11 by omega) with rfl | rfl | rfl | rfl | rfl | rfl | rfl | rfl | rfl | rfl | rfl | rfl <;> rfl
theorem NR.ev {g o : Nat} (h : NR w lo hi (some ⟨g, o, none⟩) l W E SL) {i : Nat} (hi' : i < l) : ∀ (j : Nat) (v : Value), ([.int .u64 (W i 0), .int .u64 (W i 1), .int .u64 (W i 2), .int .u64 (W i 3), .int .u64 (W i 4), .int .u64 (W i 5), .int .u64 (W i 6), .int .u64 (W i 7), .int .u64 (W i 8), .int .u64 (W i 9), .int .u64 (W i 10), .int .u64 (W i 11), .slice (SL i).1 (E i).length (SL i).2] : List Value)[j]? = some v → w.cell? ⟨g, (o + i * 13) + j, none⟩ = some v := by
  intro j v hj
  have hjl := (List.getElem?_eq_some_iff.1 hj).1
  simp only [List.length_cons, List.length_nil, Nat.zero_add] at hjl
  rcases Nat.lt_or_ge j 12 with h12 | h12
  · refine h.pt hi' j v ?_
    rw [← hj]
    rcases (show j = 0 ∨ j = 1 ∨ j = 2 ∨ j = 3 ∨ j = 4 ∨ j = 5 ∨ j = 6 ∨ j = 7 ∨ j = 8 ∨ j = 9 ∨ j = 10 ∨ j = 11 by omega) with rfl | rfl | rfl | rfl | rfl | rfl | rfl | rfl | rfl | rfl | rfl | rfl <;> rfl
  · obtain rfl : j = 12 := by omega
    rw [Nat.add_assoc, h.sl hi', ← hj]
    rfl
theorem NR.congr {W' : Nat → Nat → Int} {E' : Nat → List Int} (h : NR w lo hi A l W E SL) (hW : ∀ i, i < l → ∀ j, j < 12 → W' i j = W i j) (hE : ∀ i, i < l → E' i = E i) : NR w lo hi A l W' E' SL := by
  refine ⟨h.lh, ?_, fun i hi' => by rw [hE i hi']; exact h.inner i hi'⟩
  rcases h.row with h | ⟨g, off, T, cs, fz, hA, hg, hr, hc⟩
  · exact .inl h
  · refine .inr ⟨g, off, T, cs, fz, hA, hg, hr, fun i hi' => ?_⟩
    obtain ⟨h1, h2⟩ := hc i hi'
    exact ⟨fun j hj => by rw [h1 j hj, hW i hi' j hj], by rw [hE i hi']; exact h2⟩
end
structure NO (w : World) (lo hi : Nat) (x : Int) (T T' : Nat) (A : Option Addr) (l c : Nat) (W : Nat → Nat → Int) (E : Nat → List Int) (SL : SlF) : Prop where
  lh : lo ≤ hi ∧ hi ≤ w.heap.size
  lc : l ≤ c
  row : c = 0 ∨ ∃ (g off : Nat) (cs : List Value), A = some ⟨g, off, none⟩ ∧ w.heap[g]? = some (.cells cs.toArray T) ∧ ((lo ≤ g ∧ g < hi) ∧ (g : Int) ≠ x) ∧ off + c * 13 ≤ cs.length ∧ ∀ i, i < l → evAt (fun k => cs[off + k]?) i (W i) (SL i).1 (E i).length (SL i).2
  inner : ∀ i, i < l → Ow w lo T' .i64 (SL i).1 (SL i).2 (E i) ∧ ∀ b o, (SL i).1 = some ⟨b, o, none⟩ → (b < hi ∧ (b : Int) ≠ x) ∧ ∀ i', i' < l → i' ≠ i → ∀ b' o', (SL i').1 = some ⟨b', o', none⟩ → b' ≠ b
theorem Ow.keep {w w' : World} {base T c : Nat} {k : IntKind} {A : Option Addr} {L : List Int} (h : Ow w base T k A c L) (hs : w.heap.size ≤ w'.heap.size) (hk : ∀ g o ob, A = some ⟨g, o, none⟩ → w.heap[g]? = some ob → w'.heap[g]? = some ob) : Ow w' base T k A c L := by
  obtain ⟨⟨h1, h2⟩, h3⟩ := h
  refine ⟨⟨h1, ?_⟩, Nat.le_trans h3 hs⟩
  rcases h2 with h2 | ⟨g, cap, cur, hv, hb, hg, r⟩
  · exact .inl h2
  · refine .inr ⟨g, cap, cur, hv, hb, hk g 0 _ ?_ hg, r⟩
    injection hv
section
variable {w w' : World} {lo hi T T' : Nat} {x : Int} {A : Option Addr} {l c : Nat} {W : Nat → Nat → Int} {E : Nat → List Int} {SL : SlF}
theorem NO.keep (h : NO w lo hi x T T' A l c W E SL) (hs : w.heap.size ≤ w'.heap.size) (hk : ∀ g ob, lo ≤ g → g < hi → (g : Int) ≠ x → w.heap[g]? = some ob → w'.heap[g]? = some ob) : NO w' lo hi x T T' A l c W E SL := by
  refine ⟨⟨h.lh.1, Nat.le_trans h.lh.2 hs⟩, h.lc, ?_, fun i hi' => ?_⟩
  · rcases h.row with h | ⟨g, off, cs, hA, hg, hr, hc⟩
    · exact .inl h
    · exact .inr ⟨g, off, cs, hA, hk g _ hr.1.1 hr.1.2 hr.2 hg, hr, hc⟩
  · obtain ⟨h1, h2⟩ := h.inner i hi'
    exact ⟨h1.keep hs fun g o ob hA hg => hk g ob (h1.ge hA) (h2 g o hA).1.1 (h2 g o hA).1.2 hg, h2⟩
theorem NO.ext (h : NO w lo hi x T T' A l c W E SL) (e : Ext w w') : NO w' lo hi x T T' A l c W E SL := h.keep e.size fun _ _ _ _ _ hg => e.blk hg
theorem NO.mid {lo' hi' : Nat} {x' : Int} (h : NO w lo hi x T T' A l c W E SL) (e : Mid lo' hi' x' w w') (hd : hi ≤ lo' ∨ hi' ≤ lo ∨ ((lo' : Int) = x ∧ hi' ≤ lo' + 1)) : NO w' lo hi x T T' A l c W E SL :=
  h.keep e.size fun g _ h1 h2 _ hg => (e.block g (lt_of_blk hg) (by omega)).trans hg
theorem NO.bl {base : Nat} (h : NO w lo hi x T T' A l c W E SL) (e : Below base w w') (hd : hi ≤ base) : NO w' lo hi x T T' A l c W E SL :=
  h.keep e.size fun g _ h1 h2 _ hg => (e.block g (by omega)).trans hg
theorem NO.st {b : Nat} (h : NO w lo hi x T T' A l c W E SL) (e : St b w w') (hd : hi ≤ b ∨ b < lo ∨ (b : Int) = x) : NO w' lo hi x T T' A l c W E SL :=
  h.keep (Nat.le_of_eq e.size.symm) fun g _ h1 h2 h3 hg => (e.block g (by omega)).trans hg
theorem NO.nr (h : NO w lo hi x T T' A l c W E SL) : NR w lo hi A l W E SL := by
  refine ⟨h.lh.2, ?_, fun i hi' => ?_⟩
  · rcases h.row with h0 | ⟨g, off, cs, hA, hg, hr, _, hc⟩
    · exact .inl (by have := h.lc; omega)
    · exact .inr ⟨g, off, T, cs.toArray, _, hA, hg, hr.1, fun i hi' => by simpa using hc i hi'⟩
  · obtain ⟨h1, h2⟩ := h.inner i hi'
    exact ⟨h1.cap, h1.wd.rdI, fun g o hA _ => ⟨h1.ge hA, (h2 g o hA).1.1⟩⟩
theorem NO.at (h : NO w lo hi x T T' A l c W E SL) (hp : 0 < c) : ∃ g o, A = some ⟨g, o, none⟩ := by
  rcases h.row with h0 | ⟨g, off, cs, hA, _⟩
  · omega
  · exact ⟨g, off, hA⟩
theorem NO.congr {W' : Nat → Nat → Int} {E' : Nat → List Int} (h : NO w lo hi x T T' A l c W E SL) (hW : ∀ i, i < l → ∀ j, j < 12 → W' i j = W i j) (hE : ∀ i, i < l → E' i = E i) : NO w lo hi x T T' A l c W' E' SL := by
  refine ⟨h.lh, h.lc, ?_, fun i hi' => by rw [hE i hi']; exact h.inner i hi'⟩
  rcases h.row with h | ⟨g, off, cs, hA, hg, hr, hl, hc⟩
  · exact .inl h
  · refine .inr ⟨g, off, cs, hA, hg, hr, hl, fun i hi' => ?_⟩
    obtain ⟨h1, h2⟩ := hc i hi'
    exact ⟨fun j hj => by rw [h1 j hj, hW i hi' j hj], by rw [hE i hi']; exact h2⟩
theorem Below.fresh {N : Nat} {w0 w : World} (h : Below N w0 w) : w0.heap.size ≤ w.heap.size := h.size
end
def updA {α : Type} (f : Nat → α) (i : Nat) (a : α) : Nat → α := fun k => if k = i then a else f k
theorem updA_same {α : Type} (f : Nat → α) (i : Nat) (a : α) : updA f i a i = a := if_pos rfl
theorem updA_ne {α : Type} (f : Nat → α) {i k : Nat} (a : α) (h : k ≠ i) : updA f i a k = f k := if_neg h
def evC (ws : Nat → Int) (A : Option Addr) (n c : Nat) : List Value := [.int .u64 (ws 0), .int .u64 (ws 1), .int .u64 (ws 2), .int .u64 (ws 3), .int .u64 (ws 4), .int .u64 (ws 5), .int .u64 (ws 6), .int .u64 (ws 7), .int .u64 (ws 8), .int .u64 (ws 9), .int .u64 (ws 10), .int .u64 (ws 11), .slice A n c]
theorem evC_at {ws : Nat → Int} {A : Option Addr} {n c j : Nat} (h : j < 12) : (evC ws A n c)[j]? = some (.int .u64 (ws j)) := by
  rcases (show j = 0 ∨ j = 1 ∨ j = 2 ∨ j = 3 ∨ j = 4 ∨ j = 5 ∨ j = 6 ∨ j = 7 ∨ j = 8 ∨ j = 9 ∨ j = 10 ∨ j = 11 by omega) with rfl | rfl | rfl | rfl | rfl | rfl | rfl | rfl | rfl | rfl | rfl | rfl <;> rfl
section
variable {P : Program} {n : Nat} {fr : Fr} {w : World} {ty : TypeId} {lo hi T T' : Nat} {x : Int} {A : Option Addr} {l c : Nat} {W : Nat → Nat → Int} {E : Nat → List Int} {SL : SlF}
theorem oe_makeN {t e : TypeId} {x1 y1 : Operand} {kl kc : IntKind} {m bytes T' : Nat} {x : Int} {j : Int} {z : Value} {K : Value → World → Prop} {W : Nat → Nat → Int} {E : Nat → List Int} {SL : SlF} (ht : P.underlying t = some (.slice e))
    (hi : (P.info? e).map (fun i => (i.zero, i.size, i.bytes)) = some (some z, 13, bytes)) (hz : z.cells.size = 13) (hx : EV n fr x1 (.int kl j)) (hy : EV n fr y1 (.int kc j)) (hj : j = (m : Nat)) (hb : bytes * m ≤ 281474976710656) (hl : m ≤ 281474976710656)
    (hx0 : x < (w.heap.size : Int)) (h : ∀ A' w', NO w' w.heap.size w'.heap.size x e T' A' 0 m W E SL → Ext w w' → K (.slice A' m m) w') : OE P n (.makeSlice t x1 y1) ty fr w K := by
  subst hj
  cases hin : P.info? e with
  | none => simp [hin] at hi
  | some inf =>
    simp only [hin, Option.map_some, Option.some.injEq, Prod.mk.injEq] at hi
    obtain ⟨h1, h2, h3⟩ := hi
    subst h3
    have hb' : (inf.bytes : Int) * (m : Int) ≤ 281474976710656 := by
      have h : ((inf.bytes * m : Nat) : Int) ≤ 281474976710656 := by omega
      rwa [Int.natCast_mul] at h
    have hr := run_make (P := P) w t e inf z ht hin h1 kl kc m m (by omega) (Int.le_refl _) hb' (by omega)
    simp only [Int.toNat_natCast, h2] at hr
    have hn := new_alloc w (.cells (madeCells z.cells (m * 13)) e)
    refine OE.of_run (fun _ _ _ _ => ?_) (h (some ⟨w.heap.size, 0, none⟩) _ ⟨⟨hn.ext.size, Nat.le_refl _⟩, Nat.zero_le _, .inr ⟨w.heap.size, 0, (madeCells z.cells (m * 13)).toList, rfl, by simpa using hn.blk, ⟨⟨Nat.le_refl _, by rw [hn.size]; omega⟩, by omega⟩, by simp [madeCells], fun i hi' => absurd hi' (Nat.not_lt_zero _)⟩, fun i hi' => absurd hi' (Nat.not_lt_zero _)⟩ hn.ext)
    unfold EV at hx hy
    simp [execOp, hx, hy, hr]
theorem evAt_set {cs l2 : List Value} {off i q : Nat} {ws : Nat → Int} {A : Option Addr} {n c : Nat} (h : evAt (fun k => cs[off + k]?) q ws A n c) (hs : ∀ k, (k < off + i * 13 ∨ off + i * 13 + 13 ≤ k) → l2[k]? = cs[k]?) (hne : q ≠ i) : evAt (fun k => l2[off + k]?) q ws A n c := by
  have : ∀ j, j < 13 → (off + (q * 13 + j) < off + i * 13 ∨ off + i * 13 + 13 ≤ off + (q * 13 + j)) := fun j hj => by omega
  exact ⟨fun j hj => (hs _ (this j (by omega))).trans (h.1 j hj), (hs _ (this 12 (by omega))).trans h.2⟩
theorem stC_get {cs vs l : List Value} {o : Nat} (h : stC cs o vs = some l) (hl : o + vs.length ≤ cs.length) : (∀ k, (k < o ∨ o + vs.length ≤ k) → l[k]? = cs[k]?) ∧ ∀ j, j < vs.length → l[o + j]? = vs[j]? := by
  have hm := stC_mid o cs vs hl
  rw [hm] at h
  obtain rfl := Option.some.inj h
  refine ⟨fun k hk => ?_, fun j hj => ?_⟩
  · rcases hk with hk | hk
    · rw [List.append_assoc, List.getElem?_append_left (by simp; omega), List.getElem?_take_of_lt hk]
    · rw [List.getElem?_append_right (by simp; omega), List.getElem?_drop]
      congr 1
      simp
      omega
  · rw [List.append_assoc, List.getElem?_append_right (by simp; omega)]
    have : o + j - (List.take o cs).length = j := by simp; omega
    rw [this, List.getElem?_append_left hj]
theorem oe_storeN {t : TypeId} {x1 y1 : Operand} {g o s : Nat} {ws : Nat → Int} {A' : Option Addr} {c' : Nat} {es : List Int} {vs : List Value} {K : Value → World → Prop} (hs : sizeB P t = some 13) (hx : EV n fr x1 (.pointer (some ⟨g, o + l * 13, none⟩))) (hy : EV n fr y1 (.agg vs.toArray))
    (hN : NO w lo hi x T T' (some ⟨g, o, none⟩) l c W E SL) (hT : T ≠ T') (hl : l < c) (hv : vs = evC ws A' es.length c') (hO : Ow w s T' .i64 A' c' es) (hs1 : hi ≤ s) (hxs : x < (s : Int)) (hW : ∀ j, j < 12 → W l j = ws j) (hE : E l = es)
    (h : ∀ w', NO w' lo w'.heap.size x T T' (some ⟨g, o, none⟩) (l + 1) c W E (updA SL l (A', c')) → Mid lo hi x w w' → K undef w') : OE P n (.store t x1 y1) ty fr w K := by
  rcases hN.row with h0 | ⟨g', off, cs, hA, hg, hr, hlen, hc⟩
  · omega
  obtain ⟨rfl, rfl⟩ : g = g' ∧ o = off := by simpa using hA
  have hvl : vs.length = 13 := by rw [hv]; rfl
  obtain ⟨l2, hst⟩ : ∃ l2, stC cs (o + l * 13) vs = some l2 := ⟨_, stC_mid _ _ _ (by rw [hvl]; omega)⟩
  obtain ⟨hk1, hk2⟩ := stC_get hst (by rw [hvl]; omega)
  have hone : vs.all (·.oneCell') = true := by rw [hv]; rfl
  refine oe_store hx hy hs (vs := vs) (by simp [Value.cells]) hvl hone hg hst fun w' e hb' => h w' ?_ (e.mid hr.1.1 hr.1.2 hr.2)
  have hl2 : l2.length = cs.length := by
    have hm := stC_mid (o + l * 13) cs vs (by rw [hvl]; omega)
    rw [hm] at hst
    obtain rfl := Option.some.inj hst
    simp
    omega
  have hbg : ∀ b o2 L c2 A2 s2, A2 = some ⟨b, o2, none⟩ → Ow w s2 T' .i64 A2 c2 L → b ≠ g := by
    intro b o2 L c2 A2 s2 hA2 hO2 he
    subst he; subst hA2
    rcases hO2.1.2 with ⟨hv2, _⟩ | ⟨g2, cap, cur, hv2, hb2, hg2, _⟩
    · injection hv2 with h1 _ _; cases h1
    · injection hv2 with h1 _ _
      injection h1 with h1
      injection h1 with h1 _ _
      subst h1
      rw [hg] at hg2
      injection hg2 with hg2
      injection hg2 with _ hg2 _
      exact hT hg2
  have hblt : ∀ b o2, A' = some ⟨b, o2, none⟩ → s ≤ b ∧ b < w.heap.size := fun b o2 hb => ⟨hO.ge hb, hO.lt b o2 hb⟩
  refine ⟨⟨by rw [e.size]; have := hN.lh; omega, Nat.le_refl _⟩, by omega, .inr ⟨g, o, l2, rfl, hb', ⟨⟨hr.1.1, by rw [e.size]; exact lt_of_blk hg⟩, hr.2⟩, by omega, fun i hi' => ?_⟩, fun i hi' => ?_⟩
  · by_cases hil : i = l
    · subst hil
      rw [updA_same]
      have hj : ∀ j, j < 13 → l2[o + (i * 13 + j)]? = vs[j]? := fun j hj => by rw [← Nat.add_assoc]; exact hk2 j (by omega)
      refine ⟨fun j hj' => ?_, ?_⟩
      · show l2[o + (i * 13 + j)]? = _
        rw [hj j (by omega), hv, evC_at hj', hW j hj']
      · show l2[o + (i * 13 + 12)]? = _
        rw [hj 12 (by omega), hv, hE]; rfl
    · rw [updA_ne _ _ hil]
      exact evAt_set (hc i (by omega)) (fun k hk => hk1 k (by rw [hvl]; exact hk)) hil
  · have hkeep : ∀ A2 c2 s2 L, Ow w s2 T' .i64 A2 c2 L → Ow w' s2 T' .i64 A2 c2 L := fun A2 c2 s2 L hO2 => hO2.keep (Nat.le_of_eq e.size.symm) fun b o2 ob hA2 hb2 => e.blk hb2 (hbg b o2 L c2 A2 s2 hA2 hO2)
    by_cases hil : i = l
    · subst hil
      rw [updA_same, hE]
      have h1 := hN.lh
      refine ⟨(hkeep _ _ _ _ hO).mono (by omega), fun b o2 hA2 => ⟨⟨by rw [e.size]; exact (hblt b o2 hA2).2, by have := (hblt b o2 hA2).1; omega⟩, fun i' hi2 hne b' o' hb' he => ?_⟩⟩
      rw [updA_ne _ _ hne] at hb'
      have := ((hN.inner i' (by omega)).2 b' o' hb').1.1
      have := (hblt b o2 hA2).1
      omega
    · rw [updA_ne _ _ hil]
      obtain ⟨h1, h2⟩ := hN.inner i (by omega)
      refine ⟨hkeep _ _ _ _ h1, fun b o2 hA2 => ⟨⟨by rw [e.size]; have := (h2 b o2 hA2).1.1; have := hN.lh; omega, (h2 b o2 hA2).1.2⟩, fun i' hi2 hne b' o' hb' => ?_⟩⟩
      by_cases hil2 : i' = l
      · subst hil2
        rw [updA_same] at hb'
        have := (hblt b' o' hb').1
        have := (h2 b o2 hA2).1.1
        omega
      · rw [updA_ne _ _ hil2] at hb'
        exact (h2 b o2 hA2).2 i' (by omega) hne b' o' hb'
end
end Go.Proofs.YtmbpomcbdopgnaaGreat.Fw
set_option linter.unusedVariables false
set_option linter.unusedSimpArgs false
namespace Go.Proofs.YtmbpomcbdopgnaaGreat.Fw
abbrev riseAt (L : List Int) (k : Nat) : Prop := (0 ≤ L.getD k 0 ∧ L.getD k 0 ≤ 39) ∧ (0 < k → L.getD (k - 1) 0 < L.getD k 0)
def riseP (L : List Int) : Prop := ∀ k, k < L.length → riseAt L k
instance (L : List Int) : Decidable (riseP L) := by unfold riseP; infer_instance
abbrev evC1 (Q : Nat → Ev) (i : Nat) : Prop := 0 < i → pc (Q (i - 1)).x (Q (i - 1)).y (Q (i - 1)).u (Q i).x (Q i).y (Q i).u < 0
abbrev evOkAt (Q : Nat → Ev) (i : Nat) : Prop := pOk (Q i).x (Q i).y (Q i).u ∧ 0 < (Q i).es.length ∧ riseP (Q i).es ∧ evC1 Q i
def evsOk (l : Nat) (Q : Nat → Ev) : Prop := l ≤ 200 ∧ ∀ i, i < l → evOkAt Q i
instance (l : Nat) (Q : Nat → Ev) : Decidable (evsOk l Q) := by unfold evsOk; infer_instance
theorem evsOk_ne {l : Nat} {Q : Nat → Ev} (h : evsOk l Q) : ∀ i, i < l → 0 < (Q i).es.length := fun i hi => (h.2 i hi).2.1
theorem evsOk_l {l : Nat} {Q : Nat → Ev} (h : evsOk l Q) : l ≤ 200 := h.1
theorem set_inv1 {M xs : List Int} {i : Nat} (hM : M.take i = xs.take i) (hl : i + 1 ≤ M.length) (hx : i + 1 ≤ xs.length) : (M.set i (xs.getD i 0)).take (i + 1) = xs.take (i + 1) := by
  have hs : (M.set i (xs.getD i 0)).take i = xs.take i := by rw [List.take_set, List.set_eq_of_length_le (by simp; omega), hM]
  refine take_eq1 hs (by simp; omega) hx ?_
  simp [List.getD_eq_getElem?_getD, show i < M.length by omega]
theorem szV_neg {l : Nat} {n : Int} (h : szV l n < 0) : szV l n = -1 := by
  unfold szV at h ⊢
  split
  · rfl
  · rename_i h2; rw [if_neg h2] at h; omega
def evF (l : Nat) (Q : Nat → Ev) : Prop := ∀ i, i < l → (fits (Q i).x ∧ fits (Q i).y ∧ fits (Q i).u) ∧ (Q i).es.length ≤ 1048576
theorem evF.x {l : Nat} {Q : Nat → Ev} (h : evF l Q) {i : Nat} (hi : i < l) : fits (Q i).x := (h i hi).1.1
theorem evF.y {l : Nat} {Q : Nat → Ev} (h : evF l Q) {i : Nat} (hi : i < l) : fits (Q i).y := (h i hi).1.2.1
theorem evF.u {l : Nat} {Q : Nat → Ev} (h : evF l Q) {i : Nat} (hi : i < l) : fits (Q i).u := (h i hi).1.2.2
theorem evF.n {l : Nat} {Q : Nat → Ev} (h : evF l Q) {i : Nat} (hi : i < l) : (Q i).es.length ≤ 1048576 := (h i hi).2
theorem le_step {E : Nat → Nat} {i : Nat} {m : Nat} (h : ∀ k, k < i → E k ≤ m) (hi : E i ≤ m) : ∀ k, k < i + 1 → E k ≤ m := fun k hk => by
  rcases Nat.lt_or_ge k i with h1 | h1
  · exact h k h1
  · obtain rfl : k = i := by omega
    exact hi
theorem evs_of {l : Nat} {W : Nat → Nat → Int} (E : Nat → List Int) (h : ∀ i, i < l → ∀ j, j < 12 → 0 ≤ W i j ∧ W i j < 18446744073709551616) : ∃ Q : Nat → Ev, (∀ i, i < l → ∀ j, j < 12 → evW (Q i) j = W i j) ∧ (∀ i, (Q i).es = E i) ∧ ∀ i, i < l → fits (Q i).x ∧ fits (Q i).y ∧ fits (Q i).u := by
  have one : ∀ i, ∃ e : Ev, e.es = E i ∧ (i < l → (∀ j, j < 12 → evW e j = W i j) ∧ fits e.x ∧ fits e.y ∧ fits e.u) := by
    intro i
    by_cases hi : i < l
    · have hw := h i hi
      obtain ⟨x, fx, x3, x2, x1, x0⟩ := words_z (hw 0 (by decide)) (hw 1 (by decide)) (hw 2 (by decide)) (hw 3 (by decide))
      obtain ⟨y, fy, y3, y2, y1, y0⟩ := words_z (hw 4 (by decide)) (hw 5 (by decide)) (hw 6 (by decide)) (hw 7 (by decide))
      obtain ⟨u, fu, u3, u2, u1, u0⟩ := words_z (hw 8 (by decide)) (hw 9 (by decide)) (hw 10 (by decide)) (hw 11 (by decide))
      refine ⟨⟨x, y, u, E i⟩, rfl, fun _ => ⟨fun j hj => ?_, fx, fy, fu⟩⟩
      rcases (show j = 0 ∨ j = 1 ∨ j = 2 ∨ j = 3 ∨ j = 4 ∨ j = 5 ∨ j = 6 ∨ j = 7 ∨ j = 8 ∨ j = 9 ∨ j = 10 ∨ j = 11 by omega) with rfl | rfl | rfl | rfl | rfl | rfl | rfl | rfl | rfl | rfl | rfl | rfl
      · exact x3.symm
      · exact x2.symm
      · exact x1.symm
      · exact x0.symm
      · exact y3.symm
      · exact y2.symm
      · exact y1.symm
      · exact y0.symm
      · exact u3.symm
      · exact u2.symm
      · exact u1.symm
      · exact u0.symm
    · exact ⟨⟨0, 0, 0, E i⟩, rfl, fun hh => absurd hh hi⟩
  refine ⟨fun i => (one i).choose, fun i hi j hj => ((one i).choose_spec.2 hi).1 j hj, fun i => (one i).choose_spec.1, fun i hi => ((one i).choose_spec.2 hi).2⟩
end Go.Proofs.YtmbpomcbdopgnaaGreat.Fw
set_option linter.unusedVariables false
set_option linter.unusedSimpArgs false
namespace Go.Proofs.YtmbpomcbdopgnaaGreat.Fw
open Go Go.RowKit
section
variable {w : World} {lo hi : Nat} {A : Option Addr} {l : Nat} {W : Nat → Nat → Int} {E : Nat → List Int} {SL : SlF}
theorem NR.slA {g o : Nat} (h : NR w lo hi (some ⟨g, o, none⟩) l W E SL) {i : Nat} (hi' : i < l) {B : Option Addr} {c : Nat} (hB : B = (SL i).1) (hc : c = (SL i).2) : w.cell? ⟨g, o + (i * 13 + 12), none⟩ = some (.slice B (E i).length c) := by subst hB; subst hc; exact h.sl hi'
theorem NR.rdA (h : NR w lo hi A l W E SL) {i : Nat} (hi' : i < l) {B : Option Addr} (hB : B = (SL i).1) : RdI w .i64 B (E i) := by subst hB; exact h.rd hi'
theorem NR.evA {g o : Nat} (h : NR w lo hi (some ⟨g, o, none⟩) l W E SL) {i : Nat} (hi' : i < l) {B : Option Addr} {c : Nat} (hB : B = (SL i).1) (hc : c = (SL i).2) : ∀ (j : Nat) (v : Value), ([.int .u64 (W i 0), .int .u64 (W i 1), .int .u64 (W i 2), .int .u64 (W i 3), .int .u64 (W i 4), .int .u64 (W i 5), .int .u64 (W i 6), .int .u64 (W i 7), .int .u64 (W i 8), .int .u64 (W i 9), .int .u64 (W i 10), .int .u64 (W i 11), .slice B (E i).length c] : List Value)[j]? = some v → w.cell? ⟨g, (o + i * 13) + j, none⟩ = some v := by subst hB; subst hc; exact h.ev hi'
end
section
variable {H : Type} {enc : TypeId × Value → H} {P : Program} {w : World} {base : Nat} {spare : Nat → Bool} {held : Bool}
theorem ok_rowE {H : Type} {enc : TypeId × Value → H} {P : Program} {w : World} {r : Reach} {base : Nat} {spare : Nat → Bool} {held : Bool} {t e d ts te : Nat} {us : List TypeId} {v : Value} {dd : DataW H} {pp : List MemPlace} (ht : P.underlying t = some (.slice e)) (hf : flatC P d e = some us) (hC : P.cellsOf e = 13) (hm : us.length = 13)
    (hk : (us.take 12).all (fun u => isIntK P .u64 u) = true) (hs : us[12]? = some ts) (hts : P.underlying ts = some (.slice te)) (hte : P.underlying te = some (.int .i64)) (hce : P.cellsOf te = 1)
    (ho : Value.okWide P w r base t v) (h : DataW.Trod enc P w 0 spare held t v dd pp) :
    ∃ (A : Option Addr) (l c : Nat) (W : Nat → Nat → Int) (E : Nat → List Int) (SL : SlF), v = .slice A l c ∧ l ≤ c ∧ c ≤ 9223372036854775807 ∧ NR w 0 w.heap.size A l W E SL ∧ (∀ i, i < l → (SL i).2 ≤ 9223372036854775807) ∧ ∀ i, i < l → ∀ j, j < 12 → 0 ≤ W i j ∧ W i j < 18446744073709551616 := by
  obtain ⟨fuel, hf'⟩ := h
  have hv : v.cells.toList = [v] := by
    unfold Value.okWide at ho
    rw [ht] at ho
    simp only at ho
    unfold Cell.okWide at ho
    rw [ht] at ho
    simp only at ho
    unfold Cell.ok at ho
    rw [ht] at ho
    cases v <;> simp only at ho <;> rfl
  rw [hv] at hf'
  rcases Go.Deep.open_slice ht hf' with ⟨h1, h2⟩ | ⟨a, len, cap, mm, nn, D, Pl, h1, hb, hl, hcap, hmm, hx, hi⟩
  · obtain rfl : v = .slice none 0 0 := by simpa using h1
    exact ⟨none, 0, 0, fun _ _ => 0, fun _ => [], fun _ => (none, 0), rfl, Nat.le_refl _, Nat.zero_le _, ⟨Nat.le_refl _, .inl rfl, fun i hi => absurd hi (Nat.not_lt_zero _)⟩, fun i hi => absurd hi (Nat.not_lt_zero _), fun i hi => absurd hi (Nat.not_lt_zero _)⟩
  · obtain rfl : v = .slice (some a) len cap := by simpa using h1
    have hlm : len ≤ mm := by rw [hmm]; split <;> omega
    have flt : flatC P 1 te = some [te] := by simp only [flatC, hte, hce, if_true]
    have one : ∀ i, ∃ (ws : Nat → Int) (B : Option Addr) (n c : Nat) (L : List Int), i < len → evAt (fun k => w.cell? (a.add k)) i ws B n c ∧ n ≤ c ∧ c ≤ maxLen ∧ L.length = n ∧ RdI w .i64 B L ∧ ∀ j, j < 12 → 0 ≤ ws j ∧ ws j < 18446744073709551616 := by
      intro i
      by_cases hil : i < len
      · obtain ⟨cs', hcs, htr⟩ := hi i (by omega)
        rw [hC] at hcs
        obtain ⟨h3, h4⟩ := trod_flat d e us nn [] cs' _ hf htr
        obtain ⟨_, hcl, hat⟩ := World.cells?_some hcs
        have wd : ∀ j, ∃ z : Int, j < 12 → w.cell? (a.add (i * 13 + j)) = some (.int .u64 z) ∧ 0 ≤ z ∧ z < 18446744073709551616 := by
          intro j
          by_cases hj : j < 12
          · obtain ⟨u, hu⟩ : ∃ u, us[j]? = some u := ⟨us[j]'(by omega), List.getElem?_eq_getElem _⟩
            obtain ⟨v', m', y, h5, h6⟩ := h4 j u hu
            have hku : P.underlying u = some (.int .u64) := isIntK_spec (List.all_eq_true.1 hk u (List.mem_of_getElem? (i := j) (by rw [List.getElem?_take_of_lt hj]; exact hu)))
            obtain ⟨z, h7, h8, h9⟩ := DataW.trod_int hku h6
            refine ⟨z, fun _ => ⟨?_, ?_⟩⟩
            · have h10 := hat j (by omega)
              rw [h5] at h10
              obtain rfl : v' = .int .u64 z := by simpa using h7
              rw [← Go.Deep.add_add]
              exact h10
            · simp only [Lit.wf, Bool.and_eq_true, decide_eq_true_eq] at h9
              exact u64_rg h9
          · exact ⟨0, fun h => absurd h hj⟩
        obtain ⟨v', m', y, h5, h6⟩ := h4 12 ts hs
        obtain ⟨B, n, c, L, rfl, h7, h8, h9, h10, _⟩ := open_ints (k := .i64) (m := 1) hts flt rfl (by decide) hce (by simp [isIntK, hte]) h6
        refine ⟨fun j => (wd j).choose, B, n, c, L, fun _ => ⟨⟨fun j hj => ((wd j).choose_spec hj).1, ?_⟩, h7, h8, by rw [h9, Nat.mul_one], h10, fun j hj => ((wd j).choose_spec hj).2⟩⟩
        have h11 := hat 12 (by omega)
        rw [h5] at h11
        show w.cell? (a.add (i * 13 + 12)) = _
        rw [← Go.Deep.add_add]
        exact h11
      · exact ⟨fun _ => 0, none, 0, 0, [], fun h => absurd h hil⟩
    let W : Nat → Nat → Int := fun i => (one i).choose
    let SLn : Nat → Option Addr := fun i => (one i).choose_spec.choose
    have hsp : ∀ i, i < len → ∃ (B : Option Addr) (n c : Nat) (L : List Int), evAt (fun k => w.cell? (a.add k)) i (W i) B n c ∧ n ≤ c ∧ c ≤ maxLen ∧ L.length = n ∧ RdI w .i64 B L ∧ ∀ j, j < 12 → 0 ≤ W i j ∧ W i j < 18446744073709551616 := fun i hil => by
      obtain ⟨B, n, c, L, h⟩ := (one i).choose_spec
      exact ⟨B, n, c, L, h hil⟩
    have two : ∀ i, ∃ (p : (Option Addr × Nat) × List Int), i < len → evAt (fun k => w.cell? (a.add k)) i (W i) p.1.1 p.2.length p.1.2 ∧ p.2.length ≤ p.1.2 ∧ p.1.2 ≤ maxLen ∧ RdI w .i64 p.1.1 p.2 := fun i => by
      by_cases hil : i < len
      · obtain ⟨B, n, c, L, h1, h2, h3, h4, h5, _⟩ := hsp i hil
        subst h4
        exact ⟨((B, c), L), fun _ => ⟨h1, h2, h3, h5⟩⟩
      · exact ⟨((none, 0), []), fun h => absurd h hil⟩
    refine ⟨some a, len, cap, W, fun i => (two i).choose.2, fun i => (two i).choose.1, rfl, hl, by simpa [maxLen] using hcap, ⟨Nat.le_refl _, ?_, fun i hil => ?_⟩, fun i hil => by simpa [maxLen] using ((two i).choose_spec hil).2.2.1, fun i hil => by obtain ⟨B, n, c, L, h1, h2, h3, h4, h5, h6⟩ := hsp i hil; exact h6⟩
    · by_cases h0 : len = 0
      · exact .inl h0
      · right
        obtain ⟨h1, _⟩ := (two 0).choose_spec (by omega)
        have hz0 := h1.1 0 (by decide)
        simp only [Nat.zero_mul, Nat.add_zero] at hz0
        have hz0' : w.cell? a = some (.int .u64 (W 0 0)) := hz0
        obtain ⟨g, off, spot⟩ := a
        unfold World.cell? at hz0'
        simp only at hz0'
        cases hg : w.heap[g]? with
        | none => rw [hg] at hz0'; cases hz0'
        | some ob =>
          rw [hg] at hz0'
          cases ob with
          | cells cs T fz =>
            simp only at hz0'
            cases spot with
            | some s => simp at hz0'
            | none =>
              refine ⟨g, off, T, cs, fz, rfl, hg, ⟨Nat.zero_le _, lt_of_blk hg⟩, fun i hil => ?_⟩
              have hcell : ∀ k, w.cell? ((⟨g, off, none⟩ : Addr).add k) = cs[off + k]? := fun k => by rw [addr_addn]; exact cell_of_row w g (off + k) cs T fz hg
              obtain ⟨⟨h2, h3⟩, _⟩ := (two i).choose_spec hil
              exact ⟨fun j hj => (hcell _).symm.trans (h2 j hj), (hcell _).symm.trans h3⟩
          | _ => cases hz0'
    · obtain ⟨h1, h2, h3, h4⟩ := (two i).choose_spec hil
      refine ⟨h2, h4, fun g o hA hL => ⟨Nat.zero_le _, ?_⟩⟩
      exact RdI.lt h4 (List.length_pos_iff.2 hL) g o hA
end
end Go.Proofs.YtmbpomcbdopgnaaGreat.Fw
set_option linter.unusedVariables false
set_option linter.unusedSimpArgs false
namespace Go.Proofs.YtmbpomcbdopgnaaGreat.Fw
open Go Go.RowKit
structure NG (w : World) (lo hi T T' : Nat) (A : Option Addr) (l c : Nat) (W : Nat → Nat → Int) (E : Nat → List Int) (SL : SlF) : Prop where
  lh : lo ≤ hi ∧ hi ≤ w.heap.size
  rlt : ∀ g o, A = some ⟨g, o, none⟩ → g < hi
  own : ∃ vs : List Value, w.ownsRow lo T 13 (.slice A l c) l vs ∧ ∀ i, i < l → evAt (fun k => vs[k]?) i (W i) (SL i).1 (E i).length (SL i).2
  inner : ∀ i, i < l → Ow w lo T' .i64 (SL i).1 (SL i).2 (E i) ∧ ∀ b o, (SL i).1 = some ⟨b, o, none⟩ → b < hi ∧ ∀ i', i' < l → i' ≠ i → ∀ b' o', (SL i').1 = some ⟨b', o', none⟩ → b' ≠ b
theorem own_keepS {w w' : World} {base T n s : Nat} {v : Value} {xs : List Value} (h : w.ownsRow base T s v n xs) (hk : ∀ g o cap, v = .slice (some ⟨g, 0, none⟩) n cap → w.heap[g]? = some o → base ≤ g → w'.heap[g]? = some o) : w'.ownsRow base T s v n xs := by
  refine ⟨h.1, ?_⟩
  rcases h.2 with h | ⟨g, cap, cur, hv, hb, hg, r⟩
  · exact .inl h
  · exact .inr ⟨g, cap, cur, hv, hb, hk g _ cap hv hg hb, r⟩
section
variable {w w' : World} {lo hi T T' : Nat} {A : Option Addr} {l c : Nat} {W : Nat → Nat → Int} {E : Nat → List Int} {SL : SlF}
theorem NG.keep (h : NG w lo hi T T' A l c W E SL) (hs : w.heap.size ≤ w'.heap.size) (hk : ∀ g ob, lo ≤ g → g < hi → w.heap[g]? = some ob → w'.heap[g]? = some ob) : NG w' lo hi T T' A l c W E SL := by
  obtain ⟨vs, ho, hc⟩ := h.own
  refine ⟨⟨h.lh.1, Nat.le_trans h.lh.2 hs⟩, h.rlt, ⟨vs, own_keepS ho fun g o cap hv hg hb => hk g o hb (h.rlt g 0 (by injection hv)) hg, hc⟩, fun i hi' => ⟨(h.inner i hi').1.keep hs fun g o ob hA hg => hk g ob ((h.inner i hi').1.ge hA) ((h.inner i hi').2 g o hA).1 hg, (h.inner i hi').2⟩⟩
theorem NG.ext (h : NG w lo hi T T' A l c W E SL) (e : Ext w w') : NG w' lo hi T T' A l c W E SL := h.keep e.size fun _ _ _ _ hg => e.blk hg
theorem NG.bl {base : Nat} (h : NG w lo hi T T' A l c W E SL) (e : Below base w w') (hb : hi ≤ base) : NG w' lo hi T T' A l c W E SL := h.keep e.size fun g _ _ h2 hg => (e.block g (by omega)).trans hg
theorem NG.st {b : Nat} (h : NG w lo hi T T' A l c W E SL) (e : St b w w') (hb : hi ≤ b) : NG w' lo hi T T' A l c W E SL := h.keep (Nat.le_of_eq e.size.symm) fun g _ _ h2 hg => e.blk hg (by omega)
theorem NG.mono {hi2 : Nat} (h : NG w lo hi T T' A l c W E SL) (hh : hi ≤ hi2) (h2 : hi2 ≤ w.heap.size) : NG w lo hi2 T T' A l c W E SL :=
  ⟨⟨by have := h.lh; omega, h2⟩, fun g o hA => by have := h.rlt g o hA; omega, h.own, fun i hi' => ⟨(h.inner i hi').1, fun b o hA => ⟨by have := ((h.inner i hi').2 b o hA).1; omega, ((h.inner i hi').2 b o hA).2⟩⟩⟩
theorem NG.made {w w' : World} {b T T' : Nat} {W : Nat → Nat → Int} {E : Nat → List Int} {SL : SlF} (h : New w b (.cells #[] T) w') : NG w' b w'.heap.size T T' (some ⟨b, 0, none⟩) 0 0 W E SL :=
  ⟨⟨Nat.le_of_lt (lt_of_blk h.blk), Nat.le_refl _⟩, fun g o hA => by injection hA with hA; injection hA with hA _ _; subst hA; exact lt_of_blk h.blk, ⟨[], ⟨rfl, .inr ⟨b, 0, #[], rfl, Nat.le_refl _, h.blk, Nat.le_refl _, Nat.zero_le _, rfl, rfl⟩⟩, fun i hi => absurd hi (Nat.not_lt_zero _)⟩, fun i hi => absurd hi (Nat.not_lt_zero _)⟩
theorem NG.no (h : NG w lo hi T T' A l c W E SL) : NO w lo w.heap.size (-1) T T' A l l W E SL := by
  obtain ⟨vs, ho, hc⟩ := h.own
  refine ⟨⟨by have := h.lh; omega, Nat.le_refl _⟩, Nat.le_refl _, ?_, fun i hi' => ⟨(h.inner i hi').1, fun b o hA => ⟨⟨by have := ((h.inner i hi').2 b o hA).1; have := h.lh; omega, by omega⟩, ((h.inner i hi').2 b o hA).2⟩⟩⟩
  rcases ho.2 with ⟨hv, hn⟩ | ⟨g, cap, cur, hv, hb, hg, h1, h2, h3, h4⟩
  · exact .inl hn
  · injection hv with hA _ hcc
    refine .inr ⟨g, 0, cur.toList, hA, by simpa using hg, ⟨⟨hb, lt_of_blk hg⟩, by omega⟩, by simp; omega, fun i hi' => ?_⟩
    have hk : ∀ k, k < l * 13 → cur.toList[0 + k]? = vs[k]? := fun k hk => by rw [Nat.zero_add, ← h4, List.getElem?_take_of_lt hk]
    obtain ⟨h5, h6⟩ := hc i hi'
    exact ⟨fun j hj => (hk _ (by omega)).trans (h5 j hj), (hk _ (by omega)).trans h6⟩
theorem Ow.ne_row {s c2 b o g : Nat} {A2 : Option Addr} {L : List Int} {cs : Array Value} {fz : Nat × Nat} (hO : Ow w s T' .i64 A2 c2 L) (hT : T ≠ T') (hg : w.heap[g]? = some (.cells cs T fz)) (hA : A2 = some ⟨b, o, none⟩) : b ≠ g := by
  intro he
  subst he; subst hA
  rcases hO.1.2 with ⟨hv2, _⟩ | ⟨g2, cap, cur, hv2, hb2, hg2, _⟩
  · injection hv2 with h1 _ _; cases h1
  · injection hv2 with h1 _ _
    injection h1 with h1
    injection h1 with h1 _ _
    subst h1
    rw [hg] at hg2
    injection hg2 with hg2
    injection hg2 with _ hg2 _
    exact hT hg2
theorem NO.tail {x : Int} {g o X o0 : Nat} (h : NO w lo hi x T T' (some ⟨g, o, none⟩) l c W E SL) (hT : T ≠ T') (hl : 0 < l) (hX : (SL 0).1 = some ⟨X, o0, none⟩) : NO w lo hi X T T' (some ⟨g, o + 13, none⟩) (l - 1) (c - 1) (fun i => W (i + 1)) (fun i => E (i + 1)) (fun i => SL (i + 1)) := by
  refine ⟨h.lh, by have := h.lc; omega, ?_, fun i hi' => ?_⟩
  · rcases h.row with h0 | ⟨g', off, cs, hA, hg, hr, hlen, hc⟩
    · have := h.lc; omega
    · obtain ⟨rfl, rfl⟩ : g = g' ∧ o = off := by simpa using hA
      have hXg := (h.inner 0 hl).1.ne_row hT hg hX
      refine .inr ⟨g, o + 13, cs, rfl, hg, ⟨hr.1, by omega⟩, by have := h.lc; omega, fun i hi' => ?_⟩
      obtain ⟨h5, h6⟩ := hc (i + 1) (by omega)
      have e : ∀ k, o + 13 + (i * 13 + k) = o + ((i + 1) * 13 + k) := fun k => by omega
      exact ⟨fun j hj => by show cs[o + 13 + (i * 13 + j)]? = _; rw [e]; exact h5 j hj, by show cs[o + 13 + (i * 13 + 12)]? = _; rw [e]; exact h6⟩
  · obtain ⟨h1, h2⟩ := h.inner (i + 1) (by omega)
    refine ⟨h1, fun b o hA => ⟨⟨(h2 b o hA).1.1, ?_⟩, fun i' hi2 hne b' o' hb' => (h2 b o hA).2 (i' + 1) (by omega) (by omega) b' o' hb'⟩⟩
    have := (h2 b o hA).2 0 hl (by omega) X o0 hX
    omega
end
structure Sb (A : Option Addr) (w w' : World) : Prop where
  os : w'.os = w.os
  tape : w'.tape = w.tape
  output : w'.output = w.output
  size : w'.heap.size = w.heap.size
  block : ∀ k, (∀ o, A ≠ some ⟨k, o, none⟩) → w'.heap[k]? = w.heap[k]?
theorem Sb.refl (A : Option Addr) (w : World) : Sb A w w := ⟨rfl, rfl, rfl, rfl, fun _ _ => rfl⟩
theorem Sb.st {g o : Nat} {w w1 w2 : World} (h : Sb (some ⟨g, o, none⟩) w w1) (h2 : St g w1 w2) : Sb (some ⟨g, o, none⟩) w w2 :=
  ⟨h2.os.trans h.os, h2.tape.trans h.tape, h2.output.trans h.output, h2.size.trans h.size, fun k hk => (h2.block k (fun e => hk o (by rw [e]))).trans (h.block k hk)⟩
theorem Sb.mid {A : Option Addr} {X : Nat} {w w' : World} (h : Sb A w w') (hA : ∀ b o, A = some ⟨b, o, none⟩ → b = X) : Mid X (X + 1) (-1) w w' :=
  ⟨h.os, h.tape, h.output, Nat.le_of_eq h.size.symm, fun k _ hk => h.block k fun o he => by have := hA k o he; omega⟩
section
variable {P : Program} {n : Nat} {fr : Fr} {w : World} {ty : TypeId} {lo hi T T' : Nat} {x : Int} {A : Option Addr} {l c : Nat} {W : Nat → Nat → Int} {E : Nat → List Int} {SL : SlF}
theorem oe_storeOwS {t : TypeId} {x y : Operand} {base T c g o i : Nat} {k : IntKind} {L : List Int} {z : Int} {K : Value → World → Prop} (hs : sizeB P t = some 1) (hx : EV n fr x (.pointer (some ⟨g, o + i, none⟩))) (hy : EV n fr y (.int k z))
    (hO : Ow w base T k (some ⟨g, o, none⟩) c L) (hi : i < L.length) (h : ∀ w', Ow w' base T k (some ⟨g, o, none⟩) c (L.set i z) → Below base w w' → St g w w' → K undef w') : OE P n (.store t x y) ty fr w K := by
  obtain ⟨rfl, hbg⟩ := hO.off
  rw [Nat.zero_add] at hx
  rcases hO.1.2 with ⟨hv, hn⟩ | ⟨g', cap, cur, hv, hb, hg, h1, h2, h3, h4⟩
  · injection hv with hA _ _
    cases hA
  · injection hv with hA _ hc
    injection hA with hA
    injection hA with h5
    subst h5; subst hc
    have hlc : i < cur.toList.length := by simp; omega
    have hst : stC cur.toList i [.int k z] = some (cur.toList.set i (.int k z)) := by
      have := stC_mid i cur.toList [.int k z] (by simp at hlc ⊢; omega)
      rw [this, List.set_eq_take_append_cons_drop, if_pos hlc]
      simp
    refine oe_store hx hy hs rfl rfl rfl (cs := cur.toList) (T := T) (by simpa using hg) hst fun w' hs' hb' => h w' ⟨⟨by simp, .inr ⟨g, c, _, rfl, hb, hb', by simpa using h1, h2, by simpa using h3, ?_⟩⟩, by rw [hs'.size]; exact hO.2⟩
      ⟨hs'.os, hs'.tape, hs'.output, Nat.le_of_eq hs'.size.symm, fun j hj => hs'.block j (by omega)⟩ hs'
    simp only [List.length_set, Nat.mul_one] at h4 ⊢
    rw [List.take_set, h4, List.map_set]
def upW (W : Nat → Nat → Int) (i j : Nat) (z : Int) : Nat → Nat → Int := fun q r => if q = i ∧ r = j then z else W q r
theorem oe_storeWd {t : TypeId} {x1 y1 : Operand} {g o i j : Nat} {z : Int} {K : Value → World → Prop} (hs : sizeB P t = some 1) (hx : EV n fr x1 (.pointer (some ⟨g, o + (i * 13 + j), none⟩))) (hy : EV n fr y1 (.int .u64 z))
    (hN : NO w lo hi x T T' (some ⟨g, o, none⟩) l c W E SL) (hT : T ≠ T') (hi' : i < l) (hj : j < 12)
    (h : ∀ w', NO w' lo hi x T T' (some ⟨g, o, none⟩) l c (upW W i j z) E SL → Mid lo hi x w w' → K undef w') : OE P n (.store t x1 y1) ty fr w K := by
  have hlc := hN.lc
  rcases hN.row with h0 | ⟨g', off, cs, hA, hg, hr, hlen, hc⟩
  · omega
  obtain ⟨rfl, rfl⟩ : g = g' ∧ o = off := by simpa using hA
  have hin : o + (i * 13 + j) < cs.length := by
    have : i * 13 + 13 ≤ c * 13 := by omega
    omega
  obtain ⟨l2, hst⟩ : ∃ l2, stC cs (o + (i * 13 + j)) [.int .u64 z] = some l2 := ⟨_, stC_mid _ _ _ (by simp; omega)⟩
  obtain ⟨hk1, hk2⟩ := stC_get hst (by simp; omega)
  simp only [List.length_singleton] at hk1 hk2
  refine oe_store hx hy hs (vs := [.int .u64 z]) rfl rfl rfl hg hst fun w' e hb' => h w' ?_ (e.mid hr.1.1 hr.1.2 hr.2)
  have hl2 : l2.length = cs.length := by
    have hm := stC_mid (o + (i * 13 + j)) cs [.int .u64 z] (by simp; omega)
    rw [hm] at hst
    obtain rfl := Option.some.inj hst
    simp
    omega
  refine ⟨⟨hN.lh.1, by rw [e.size]; exact hN.lh.2⟩, hlc, .inr ⟨g, o, l2, rfl, hb', hr, by omega, fun q hq => ?_⟩, fun q hq => ?_⟩
  · obtain ⟨h5, h6⟩ := hc q hq
    refine ⟨fun r hr' => ?_, ?_⟩
    · show l2[o + (q * 13 + r)]? = some (.int .u64 (upW W i j z q r))
      unfold upW
      by_cases hqr : q = i ∧ r = j
      · obtain ⟨rfl, rfl⟩ := hqr
        rw [if_pos ⟨rfl, rfl⟩]
        simpa using hk2 0 (by decide)
      · rw [if_neg hqr]
        have hne : q * 13 + r ≠ i * 13 + j := fun he => hqr (by omega)
        exact (hk1 _ (by omega)).trans (h5 r hr')
    · have hne : q * 13 + 12 ≠ i * 13 + j := fun he => by omega
      exact (hk1 _ (by omega)).trans h6
  · obtain ⟨h1, h2⟩ := hN.inner q hq
    exact ⟨h1.keep (Nat.le_of_eq e.size.symm) fun b o2 ob hA2 hb2 => e.blk hb2 (h1.ne_row hT hg hA2), h2⟩
theorem NO.ow (h : NO w lo hi x T T' A l c W E SL) {i : Nat} (hi' : i < l) : Ow w lo T' .i64 (SL i).1 (SL i).2 (E i) := (h.inner i hi').1
theorem NO.marked {w' : World} {i : Nat} {L : List Int} (h : NO w lo hi x T T' A l c W E SL) (hT : T ≠ T') (hi' : i < l) (hS : Sb (SL i).1 w w') (hO : Ow w' lo T' .i64 (SL i).1 (SL i).2 L) (hL : L.length = (E i).length) :
    Mid lo hi x w w' ∧ NO w' lo hi x T T' A l c W (updA E i L) SL := by
  have hm : Mid lo hi x w w' := ⟨hS.os, hS.tape, hS.output, Nat.le_of_eq hS.size.symm, fun k _ hk => hS.block k fun o he => by
    have := (h.inner i hi').1.ge he
    have := ((h.inner i hi').2 k o he).1
    omega⟩
  refine ⟨hm, ⟨h.lh.1, by rw [hS.size]; exact h.lh.2⟩, h.lc, ?_, fun q hq => ?_⟩
  · rcases h.row with h0 | ⟨g, off, cs, hA, hg, hr, hlen, hc⟩
    · exact .inl h0
    · refine .inr ⟨g, off, cs, hA, (hS.block g fun o he => absurd rfl ((h.inner i hi').1.ne_row hT hg he)).trans hg, hr, hlen, fun q hq => ?_⟩
      have hE : (updA E i L q).length = (E q).length := by
        by_cases hqi : q = i
        · subst hqi; rw [updA_same, hL]
        · rw [updA_ne _ _ hqi]
      obtain ⟨h5, h6⟩ := hc q hq
      exact ⟨h5, by rw [hE]; exact h6⟩
  · by_cases hqi : q = i
    · subst hqi
      rw [updA_same]
      exact ⟨hO, (h.inner q hq).2⟩
    · rw [updA_ne _ _ hqi]
      obtain ⟨h1, h2⟩ := h.inner q hq
      exact ⟨h1.keep (Nat.le_of_eq hS.size.symm) fun b o ob hA hb => (hS.block b fun o' he => (h2 b o hA).2 i hi' (fun e => hqi e.symm) b o' he rfl).trans hb, h2⟩
theorem NG.sl {w : World} (h : NG w lo hi T T' A l c W E SL) : l ≤ c := by
  obtain ⟨vs, ho, _⟩ := h.own
  rcases ho.2 with ⟨hv, hn⟩ | ⟨g, cap, cur, hv, hb, hg, h1, _⟩
  · omega
  · injection hv with _ _ hc; omega
theorem Ow.some_of {w : World} {base T c : Nat} {k : IntKind} {A : Option Addr} {L : List Int} (h : Ow w base T k A c L) (hL : 0 < L.length) : ∃ g, A = some ⟨g, 0, none⟩ ∧ base ≤ g ∧ g < w.heap.size := by
  rcases h.1.2 with ⟨hv, hn⟩ | ⟨g, cap, cur, hv, hb, hg, _⟩
  · omega
  · injection hv with hA _ _
    exact ⟨g, hA, hb, lt_of_blk hg⟩
theorem own_sliceS {w : World} {base T n s : Nat} {v : Value} {xs : List Value} (h : w.ownsRow base T s v n xs) : ∃ A c, v = .slice A n c := by
  rcases h.2 with ⟨rfl, rfl⟩ | ⟨g, cap, cur, rfl, _⟩
  · exact ⟨_, _, rfl⟩
  · exact ⟨_, _, rfl⟩
theorem oe_appendN {t e : TypeId} {x1 y1 : Operand} {bytes g s c2 T2 c' : Nat} {z : Value} {ws : Nat → Int} {A' : Option Addr} {es : List Int} {vs : List Value} {K : Value → World → Prop} (ht : P.underlying t = some (.slice e))
    (hi' : (P.info? e).map (fun i => (i.zero, i.size, i.bytes)) = some (some z, 13, bytes)) (hz : z.cells.size = 13) (hx : EV n fr x1 (.slice A l c)) (hy : EV n fr y1 (.slice (some ⟨g, 0, none⟩) 1 c2))
    (hN : NG w lo hi e T' A l c W E SL) (hT : e ≠ T') (hg : w.heap[g]? = some (.cells vs.toArray T2)) (hv : vs = evC ws A' es.length c') (hO : Ow w s T' .i64 A' c' es) (hs : hi ≤ s)
    (hb : (l + 1) * bytes ≤ 140737488355328) (hl : l + 1 ≤ 140737488355328) (hW : ∀ j, j < 12 → W l j = ws j) (hE : E l = es)
    (h : ∀ A2 c2 w', NG w' lo w'.heap.size e T' A2 (l + 1) c2 W E (updA SL l (A', c')) → Mid lo hi (-1) w w' → K (.slice A2 (l + 1) c2) w') : OE P n (.call { callee := .builtin .append, args := #[x1, y1], argTypes := #[t, t] }) ty fr w K := by
  cases hin : P.info? e with
  | none => simp [hin] at hi'
  | some inf =>
    simp only [hin, Option.map_some, Option.some.injEq, Prod.mk.injEq] at hi'
    obtain ⟨h1, h2, h3⟩ := hi'
    obtain ⟨us, ho, hc⟩ := hN.own
    have hvl : vs.length = 13 := by rw [hv]; rfl
    obtain ⟨v', w', hr, hown, hgr, _⟩ := run_append_own (P := P) w lo t ty e inf z 13 bytes ht hin h1 h2 h3 hz (by decide) (.slice A l c) l us ho ⟨g, 0, none⟩ 1 c2 vs (by rw [hvl])
      (fun j u hj => by
        have ha : (⟨g, 0, none⟩ : Addr).add j = ⟨g, 0 + j, none⟩ := by unfold Addr.add; split <;> simp_all
        rw [ha, cell_of_row w g (0 + j) _ T2 _ hg, Nat.zero_add]
        simpa using hj) (fun u hu => by
        rw [hv] at hu
        simp only [evC, List.mem_cons, List.not_mem_nil, or_false] at hu
        rcases hu with rfl | rfl | rfl | rfl | rfl | rfl | rfl | rfl | rfl | rfl | rfl | rfl | rfl <;> rfl) (by simp only [maxLen]; omega) hb (by have := hN.lh; omega)
    obtain ⟨A2, c2', rfl⟩ := own_sliceS hown
    have hge : ∀ gg, (Value.slice A l c).ownBlock = some gg → lo ≤ gg := fun gg hgg => (ho.lt gg hgg).1
    have hlh := hN.lh
    have hkeep : ∀ A3 c3 s3 L, Ow w s3 T' .i64 A3 c3 L → Ow w' s3 T' .i64 A3 c3 L := fun A3 c3 s3 L hO3 => hO3.keep hgr.size fun b o2 ob hA3 hb3 => (hgr.block b (lt_of_blk hb3) (fun he => by
      rcases ho.2 with ⟨hv4, _⟩ | ⟨g4, cap, cur, hv4, hb4, hg4, _⟩
      · injection hv4 with hA4 _ _
        rw [hA4] at he
        simp [Value.ownBlock] at he
      · injection hv4 with hA4 _ _
        rw [hA4] at he
        simp only [Value.ownBlock, Option.some.injEq] at he
        exact absurd he (hO3.ne_row hT hg4 hA3))).trans hb3
    have hN' : NG w' lo w'.heap.size e T' A2 (l + 1) c2' W E (updA SL l (A', c')) := by
      refine ⟨⟨by have := hgr.size; omega, Nat.le_refl _⟩, fun g2 o2 hA2 => (hown.lt g2 (by rw [hA2]; rfl)).2, ⟨us ++ vs, hown, fun i hi2 => ?_⟩, fun i hi2 => ?_⟩
      · by_cases hil : i = l
        · subst hil
          rw [updA_same]
          have hk : ∀ k, (us ++ vs)[i * 13 + k]? = vs[k]? := fun k => by rw [List.getElem?_append_right (by rw [ho.1]; omega), ho.1]; congr 1; omega
          refine ⟨fun j hj => ?_, ?_⟩
          · show (us ++ vs)[i * 13 + j]? = _
            rw [hk, hv, evC_at hj, hW j hj]
          · show (us ++ vs)[i * 13 + 12]? = _
            rw [hk, hv, hE]; rfl
        · rw [updA_ne _ _ hil]
          obtain ⟨h5, h6⟩ := hc i (by omega)
          have hk : ∀ k, k < l * 13 → (us ++ vs)[k]? = us[k]? := fun k hk => List.getElem?_append_left (by rw [ho.1]; exact hk)
          exact ⟨fun j hj => (hk _ (by omega)).trans (h5 j hj), (hk _ (by omega)).trans h6⟩
      · by_cases hil : i = l
        · subst hil
          rw [updA_same, hE]
          refine ⟨(hkeep _ _ _ _ hO).mono (by omega), fun b o2 hA2 => ⟨by have := hO.lt b o2 hA2; have := hgr.size; omega, fun i' hi3 hne b' o' hb' he => ?_⟩⟩
          rw [updA_ne _ _ hne] at hb'
          have := ((hN.inner i' (by omega)).2 b' o' hb').1
          have := hO.ge hA2
          omega
        · rw [updA_ne _ _ hil]
          obtain ⟨h5, h6⟩ := hN.inner i (by omega)
          refine ⟨hkeep _ _ _ _ h5, fun b o2 hA2 => ⟨by have := (h6 b o2 hA2).1; have := hgr.size; omega, fun i' hi3 hne b' o' hb' => ?_⟩⟩
          by_cases hil2 : i' = l
          · subst hil2
            rw [updA_same] at hb'
            have := hO.ge hb'
            have := (h6 b o2 hA2).1
            omega
          · rw [updA_ne _ _ hil2] at hb'
            exact (h6 b o2 hA2).2 i' (by omega) hne b' o' hb'
    refine OE.of_run (fun _ _ _ _ => ?_) (h A2 c2' w' hN' ⟨hgr.os, hgr.tape, hgr.output, hgr.size, fun k hs hk => hgr.block k hs fun he => by
      cases A with
      | none => simp [Value.ownBlock] at he
      | some a =>
        obtain ⟨g3, o3, s3⟩ := a
        simp only [Value.ownBlock, Option.some.injEq] at he
        have h3 := hge g3 rfl
        rcases ho.2 with ⟨hv4, _⟩ | ⟨g4, cap, cur, hv4, hb4, hg4, _⟩
        · injection hv4 with hA4 _ _; cases hA4
        · injection hv4 with hA4 _ _
          have h4 := hN.rlt g4 0 hA4
          injection hA4 with hA4
          injection hA4 with hA4 _ _
          omega⟩)
    unfold EV at hx hy
    simp only [execOp, resolve, invoke, builtin, hx, hy, hr, List.map_toArray, List.map_cons, List.map_nil, Sem.run_bind, Sem.run_pure, Result.andThen_ok]
theorem oe_appendR {t e : TypeId} {x y : Operand} {k : IntKind} {A : Option Addr} {c base bytes g o c2 m : Nat} {L M : List Int} {K : Value → World → Prop} (ht : P.underlying t = some (.slice e))
    (hi : (P.info? e).map (fun i => (i.zero, i.size, i.bytes)) = some (some (.int k 0), 1, bytes)) (hx : EV n fr x (.slice A L.length c)) (hy : EV n fr y (.slice (some ⟨g, o, none⟩) m c2))
    (hO : Ow w base e k A c L) (hW : RdI w k (some ⟨g, o, none⟩) M) (hm : M.length = m) (hb : (L.length + m) * bytes ≤ 140737488355328) (hl : L.length + m ≤ 140737488355328)
    (h : ∀ A' c' w', Ow w' base e k A' c' (L ++ M) → Below base w w' → Bt e w w' → K (.slice A' (L ++ M).length c') w') : OE P n (.call { callee := .builtin .append, args := #[x, y], argTypes := #[t, t] }) ty fr w K := by
  cases hin : P.info? e with
  | none => simp [hin] at hi
  | some inf =>
    simp only [hin, Option.map_some, Option.some.injEq, Prod.mk.injEq] at hi
    obtain ⟨h1, h2, h3⟩ := hi
    subst hm
    obtain ⟨v', w', hr, hown, hgr, _⟩ := run_append_own (P := P) w base t ty e inf (.int k 0) 1 bytes ht hin h1 h2 h3 rfl (by decide) (.slice A L.length c) L.length _ hO.1 ⟨g, o, none⟩ M.length c2 (M.map (Value.int k)) (by simp)
      (fun j u hj => by
        have hjl : j < M.length := by have := (List.getElem?_eq_some_iff.1 hj).1; simpa using this
        have ha : (⟨g, o, none⟩ : Addr).add j = ⟨g, o + j, none⟩ := by unfold Addr.add; split <;> simp_all
        rw [ha, hW.cell hjl]
        rw [List.getElem?_map, List.getElem?_eq_getElem hjl] at hj
        simp only [Option.map_some, Option.some.injEq] at hj
        rw [← hj]
        simp [List.getD_eq_getElem?_getD, hjl]) (ints_oneCell k M) (by simp only [maxLen]; omega) hb hO.2
    obtain ⟨A', c', rfl⟩ := own_slice hown
    have hO' : Ow w' base e k A' c' (L ++ M) := by
      unfold Ow
      rw [List.length_append, List.map_append]
      exact ⟨hown, Nat.le_trans hO.2 hgr.size⟩
    have hr' : (Builtin.append_ #[t, t] ty #[.slice A L.length c, .slice (some ⟨g, o, none⟩) M.length c2]).run P w = .ok (.slice A' (L ++ M).length c') w' := by rw [List.length_append]; exact hr
    refine OE.of_run (fun _ _ _ _ => ?_) (h A' c' w' hO' (below_of_grown hgr hO.2 (own_row_ge hO.1)) (bt_of_grown hO hgr))
    unfold EV at hx hy
    simp only [execOp, resolve, invoke, builtin, hx, hy, hr', List.map_toArray, List.map_cons, List.map_nil, Sem.run_bind, Sem.run_pure, Result.andThen_ok]
end
end Go.Proofs.YtmbpomcbdopgnaaGreat.Fw
set_option linter.unusedVariables false
set_option linter.unusedSimpArgs false
namespace Go.Proofs.YtmbpomcbdopgnaaGreat.Fw
def kAt (k : Int) (E : Nat → List Int) : Nat → Int
  | 0 => k
  | i + 1 => kAt k E i + 12 + (E i).length
theorem kAt_ge (k : Int) (E : Nat → List Int) : ∀ i, k ≤ kAt k E i
  | 0 => Int.le_refl _
  | i + 1 => by have := kAt_ge k E i; show k ≤ kAt k E i + 12 + (E i).length; omega
theorem kAt_le (k : Int) {E : Nat → List Int} {l : Nat} (h : ∀ q, q < l → (E q).length ≤ 1048576) : ∀ i, i ≤ l → kAt k E i ≤ k + 1048588 * (i : Int)
  | 0, _ => by show k ≤ _; omega
  | i + 1, hi => by have := kAt_le k h i (by omega); have := h i (by omega); show kAt k E i + 12 + (E i).length ≤ _; omega
theorem kAt_s (k : Int) (E : Nat → List Int) (i : Nat) : kAt k E (i + 1) = kAt k E i + 12 + (E i).length := rfl
def mkd (k : Int) (E : Nat → List Int) (l : Nat) (W' : Nat → Nat → Int) (E' : Nat → List Int) : Prop :=
  ∀ q, q < l → (∀ j : Nat, j < 12 → W' q j = kAt k E q + (j : Int)) ∧ E' q = mkL (kAt k E q + 12) (E q).length
theorem mkd_0 (k : Int) (E : Nat → List Int) (W' : Nat → Nat → Int) (E' : Nat → List Int) : mkd k E 0 W' E' := fun q hq => absurd hq (Nat.not_lt_zero _)
theorem upE_len {E E' : Nat → List Int} {i : Nat} {L : List Int} (h : ∀ q, (E' q).length = (E q).length) (hL : L.length = (E' i).length) : ∀ q, (updA E' i L q).length = (E q).length := fun q => by
  by_cases hq : q = i
  · subst hq; rw [updA_same, hL, h]
  · rw [updA_ne _ _ hq, h]
theorem mkd_step {k : Int} {E E' : Nat → List Int} {i : Nat} {W' : Nat → Nat → Int} {z0 z1 z2 z3 z4 z5 z6 z7 z8 z9 z10 z11 z12 : Int} (h : mkd k E i W' E') (hl : ∀ q, (E' q).length = (E q).length)
    (h0 : z0 = kAt k E i) (h1 : z1 = kAt k E i + 1) (h2 : z2 = kAt k E i + 2) (h3 : z3 = kAt k E i + 3) (h4 : z4 = kAt k E i + 4) (h5 : z5 = kAt k E i + 5) (h6 : z6 = kAt k E i + 6) (h7 : z7 = kAt k E i + 7) (h8 : z8 = kAt k E i + 8) (h9 : z9 = kAt k E i + 9) (h10 : z10 = kAt k E i + 10) (h11 : z11 = kAt k E i + 11) (h12 : z12 = kAt k E i + 12) :
    mkd k E (i + 1) (upW (upW (upW (upW (upW (upW (upW (upW (upW (upW (upW (upW W' i 0 z0) i 1 z1) i 2 z2) i 3 z3) i 4 z4) i 5 z5) i 6 z6) i 7 z7) i 8 z8) i 9 z9) i 10 z10) i 11 z11) (updA E' i (mkL z12 (E' i).length)) := by
  intro q hq
  by_cases hqi : q = i
  · subst hqi
    refine ⟨fun j hj => ?_, by rw [updA_same, hl, h12]⟩
    rcases (show j = 0 ∨ j = 1 ∨ j = 2 ∨ j = 3 ∨ j = 4 ∨ j = 5 ∨ j = 6 ∨ j = 7 ∨ j = 8 ∨ j = 9 ∨ j = 10 ∨ j = 11 by omega) with rfl | rfl | rfl | rfl | rfl | rfl | rfl | rfl | rfl | rfl | rfl | rfl <;> simp [upW] <;> omega
  · obtain ⟨h13, h14⟩ := h q (by omega)
    refine ⟨fun j hj => ?_, by rw [updA_ne _ _ hqi, h14]⟩
    rw [← h13 j hj]
    simp [upW, hqi]
theorem mkd_held {k z : Int} {E E' : Nat → List Int} {l i : Nat} {W' : Nat → Nat → Int} (h : mkd k E l W' E') (hl : ∀ q, (E' q).length = (E q).length) (hi : i < l) (hz : z = kAt k E i + 12) : E' i = mkL z (E' i).length := by
  rw [hl, hz]; exact (h i hi).2
end Go.Proofs.YtmbpomcbdopgnaaGreat.Fw
set_option linter.unusedVariables false
set_option linter.unusedSimpArgs false
namespace Go.Proofs.YtmbpomcbdopgnaaGreat.Fw
open Go Go.RowKit
theorem NO.nil {w : World} {lo hi T T' : Nat} {W : Nat → Nat → Int} {E : Nat → List Int} {SL : SlF} {x : Int} (h1 : lo ≤ hi) (h2 : hi ≤ w.heap.size) : NO w lo hi x T T' none 0 0 W E SL :=
  ⟨⟨h1, h2⟩, Nat.le_refl _, .inl rfl, fun i hi' => absurd hi' (Nat.not_lt_zero _)⟩
theorem Ow.stX {w w' : World} {base T c b : Nat} {k : IntKind} {A : Option Addr} {L : List Int} (h : Ow w base T k A c L) (e : St b w w') (hx : ∀ b' o, A = some ⟨b', o, none⟩ → b' ≠ b) : Ow w' base T k A c L :=
  h.keep (Nat.le_of_eq e.size.symm) fun b' o ob hA hb => e.blk hb (hx b' o hA)
theorem NO.lo_le {w : World} {lo lo2 hi T T' : Nat} {A : Option Addr} {l c : Nat} {W : Nat → Nat → Int} {E : Nat → List Int} {SL : SlF} {x : Int} (h : NO w lo hi x T T' A l c W E SL) (hl : lo2 ≤ lo) : NO w lo2 hi x T T' A l c W E SL :=
  ⟨⟨by have := h.lh; omega, h.lh.2⟩, h.lc, by
    rcases h.row with h0 | ⟨g, off, cs, hA, hg, hr, hlen, hc⟩
    · exact .inl h0
    · exact .inr ⟨g, off, cs, hA, hg, ⟨⟨by omega, hr.1.2⟩, hr.2⟩, hlen, hc⟩, fun i hi' => ⟨(h.inner i hi').1.mono hl, (h.inner i hi').2⟩⟩
end Go.Proofs.YtmbpomcbdopgnaaGreat.Fw
set_option linter.unusedVariables false
set_option linter.unusedSimpArgs false
namespace Go.Proofs.YtmbpomcbdopgnaaGreat.Fw
def wl (x : Int) : Bool → List Int → List Int
  | p, [] => if p then [] else [x]
  | p, v :: r => (if p = false ∧ x ≤ v then [x] else []) ++ ((if v ≠ x then [v] else []) ++ wl x (p || decide (x ≤ v)) r)
def withL (es : List Int) (x : Int) : List Int := wl x false es
theorem wl_drop {x : Int} {es : List Int} {i : Nat} {p : Bool} (h : i < es.length) : wl x p (es.drop i) = (if p = false ∧ x ≤ es.getD i 0 then [x] else []) ++ ((if es.getD i 0 ≠ x then [es.getD i 0] else []) ++ wl x (p || decide (x ≤ es.getD i 0)) (es.drop (i + 1))) := by
  rw [List.drop_eq_getElem_cons h]
  simp [wl, List.getD_eq_getElem?_getD, h]
def wlI (x : Int) (es : List Int) (i : Nat) (p : Bool) (M : List Int) : Prop := M ++ wl x p (es.drop i) = withL es x
theorem wlI_0 (x : Int) (es : List Int) : wlI x es 0 false [] := by unfold wlI withL; simp
theorem wlI_tn {x : Int} {es M : List Int} {i : Nat} (h : wlI x es i false M) (hi : i < es.length) (hx : x ≤ es.getD i 0) (hn : es.getD i 0 ≠ x) : wlI x es (i + 1) true ((M ++ [x]) ++ [es.getD i 0]) := by
  unfold wlI at h ⊢
  rw [wl_drop hi] at h
  generalize es.getD i 0 = v at h hx hn ⊢
  rw [if_pos ⟨rfl, hx⟩, if_pos hn, decide_eq_true hx] at h
  simpa using h
theorem wlI_te {x : Int} {es M : List Int} {i : Nat} (h : wlI x es i false M) (hi : i < es.length) (hx : x ≤ es.getD i 0) (hn : es.getD i 0 = x) : wlI x es (i + 1) true (M ++ [x]) := by
  unfold wlI at h ⊢
  rw [wl_drop hi] at h
  generalize es.getD i 0 = v at h hx hn ⊢
  rw [if_pos ⟨rfl, hx⟩, if_neg (fun hh => hh hn), decide_eq_true hx] at h
  simpa using h
theorem wlI_or {x v : Int} {p : Bool} (hx : p = true ∨ ¬ x ≤ v) : (p || decide (x ≤ v)) = p ∧ ¬ (p = false ∧ x ≤ v) := by
  rcases hx with hx | hx
  · subst hx; simp
  · rw [decide_eq_false hx]; simp [hx]
theorem wlI_fn {x : Int} {es M : List Int} {i : Nat} {p : Bool} (h : wlI x es i p M) (hi : i < es.length) (hx : p = true ∨ ¬ x ≤ es.getD i 0) (hn : es.getD i 0 ≠ x) : wlI x es (i + 1) p (M ++ [es.getD i 0]) := by
  unfold wlI at h ⊢
  rw [wl_drop hi] at h
  generalize es.getD i 0 = v at h hx hn ⊢
  rw [if_neg (wlI_or hx).2, if_pos hn, (wlI_or hx).1] at h
  simpa using h
theorem wlI_fe {x : Int} {es M : List Int} {i : Nat} {p : Bool} (h : wlI x es i p M) (hi : i < es.length) (hx : p = true ∨ ¬ x ≤ es.getD i 0) (hn : es.getD i 0 = x) : wlI x es (i + 1) p M := by
  unfold wlI at h ⊢
  rw [wl_drop hi] at h
  generalize es.getD i 0 = v at h hx hn ⊢
  rw [if_neg (wlI_or hx).2, if_neg (fun hh => hh hn), (wlI_or hx).1] at h
  simpa using h
theorem wlI_end {x : Int} {es M : List Int} {i : Nat} {p : Bool} (h : wlI x es i p M) (hi : es.length ≤ i) : M ++ (if p then [] else [x]) = withL es x := by
  unfold wlI at h; rw [List.drop_of_length_le hi] at h; exact h
theorem rise_pw {L : List Int} (h : riseP L) : L.Pairwise (· < ·) := by
  rw [List.pairwise_iff_getElem]
  have key : ∀ (d i : Nat), i + d + 1 < L.length → L.getD i 0 < L.getD (i + d + 1) 0 := by
    intro d
    induction d with
    | zero => intro i hi; have := (h (i + 1) (by omega)).2 (by omega); simpa using this
    | succ d ih =>
      intro i hi
      have h1 := ih i (by omega)
      have h2 := (h (i + d + 1 + 1) (by omega)).2 (by omega)
      rw [show i + d + 1 + 1 - 1 = i + d + 1 by omega] at h2
      rw [show i + (d + 1) + 1 = i + d + 1 + 1 by omega]
      omega
  intro i j hi hj hij
  have := key (j - i - 1) i (by omega)
  rw [show i + (j - i - 1) + 1 = j by omega] at this
  simpa [List.getD_eq_getElem?_getD, hi, hj] using this
theorem wl_true {x : Int} : ∀ {L : List Int}, (∀ y ∈ L, x < y) → wl x true L = L
  | [], _ => rfl
  | v :: r, h => by
    have hv := h v (by simp)
    have ih := wl_true (L := r) (fun y hy => h y (List.mem_cons_of_mem _ hy))
    simp [wl, ih, show v ≠ x by omega]
theorem wl_mem {x : Int} : ∀ {L : List Int}, L.Pairwise (· < ·) → x ∈ L → wl x false L = L
  | [], _, h => by cases h
  | v :: r, hp, h => by
    rw [List.pairwise_cons] at hp
    by_cases hv : v = x
    · subst hv
      simp [wl, wl_true hp.1]
    · have hr : x ∈ r := by rcases List.mem_cons.1 h with h | h; · exact absurd h.symm hv
                            · exact h
      have hlt := hp.1 x hr
      simp [wl, hv, show ¬ x ≤ v by omega, wl_mem hp.2 hr]
theorem wl_new {x : Int} : ∀ {L : List Int}, L.Pairwise (· < ·) → x ∉ L → (wl x false L).Pairwise (· < ·) ∧ (wl x false L).Perm (x :: L)
  | [], _, _ => by simp [wl]
  | v :: r, hp, h => by
    have hv : v ≠ x := fun e => h (by rw [e]; simp)
    have hr : x ∉ r := fun e => h (List.mem_cons_of_mem _ e)
    have hp' := List.pairwise_cons.1 hp
    by_cases hx : x ≤ v
    · have ht := wl_true (x := x) (L := r) (fun y hy => by have := hp'.1 y hy; omega)
      have e : wl x false (v :: r) = x :: v :: r := by simp [wl, hx, hv, ht]
      rw [e]
      exact ⟨List.pairwise_cons.2 ⟨fun y hy => by rcases List.mem_cons.1 hy with rfl | hy; · omega
                                                  · have := hp'.1 y hy; omega, hp⟩, List.Perm.refl _⟩
    · have ih := wl_new hp'.2 hr
      have e : wl x false (v :: r) = v :: wl x false r := by simp [wl, hx, hv]
      rw [e]
      refine ⟨List.pairwise_cons.2 ⟨fun y hy => ?_, ih.1⟩, (ih.2.cons v).trans (List.Perm.swap _ _ _)⟩
      rcases List.mem_cons.1 (ih.2.mem_iff.1 hy) with rfl | hy
      · omega
      · exact hp'.1 y hy
theorem with_mem {x : Int} {L : List Int} (h : riseP L) (hx : x ∈ L) : withL L x = L := wl_mem (rise_pw h) hx
theorem with_sort {x : Int} {L : List Int} (h : riseP L) (hx : x ∉ L) : (L ++ [x]).mergeSort (fun a b => decide (a ≤ b)) = withL L x := by
  obtain ⟨h1, h2⟩ := wl_new (rise_pw h) hx
  refine List.Perm.eq_of_pairwise (le := fun a b : Int => a ≤ b) (fun a b _ _ h3 h4 => by omega) ?_ (h1.imp fun h => by omega) ?_
  · have := List.pairwise_mergeSort (le := fun a b : Int => decide (a ≤ b)) (fun a b c => by simp; omega) (fun a b => by simp; omega) (L ++ [x])
    simpa using this
  · exact (List.mergeSort_perm _ _).trans ((List.perm_append_comm (l₁ := L) (l₂ := [x])).trans h2.symm)
theorem with_len {x : Int} {L : List Int} (h : riseP L) : (withL L x).length ≤ L.length + 1 := by
  by_cases hx : x ∈ L
  · rw [with_mem h hx]; omega
  · rw [← with_sort h hx, List.length_mergeSort]; simp
theorem rise_len {L : List Int} (h : riseP L) : L.length ≤ 40 := by
  have key : ∀ i, i < L.length → (i : Int) ≤ L.getD i 0 := by
    intro i
    induction i with
    | zero => intro hi; exact (h 0 hi).1.1
    | succ i ih => intro hi; have h1 := ih (by omega); have h2 := (h (i + 1) hi).2 (by omega); simp only [Nat.add_sub_cancel] at h2; omega
  rcases Nat.lt_or_ge 40 L.length with h1 | h1
  · have h2 := key 40 h1
    have h3 := (h 40 h1).1.2
    omega
  · exact h1
theorem bnot_t {p : Bool} (h : (!p) = true) : p = false := by cases p <;> simp_all
theorem bnot_f {p : Bool} (h : (!p) = false) : p = true := by cases p <;> simp_all
def fnd (P : Nat → Prop) [DecidablePred P] : Nat → Nat → Nat
  | 0, i => i
  | n + 1, i => if P i then fnd P n (i + 1) else i
theorem fnd_eq {P : Nat → Prop} [DecidablePred P] : ∀ (n j : Nat) {i : Nat}, j ≤ i → i ≤ j + n → (∀ k, j ≤ k → k < i → P k) → (i = j + n ∨ ¬ P i) → fnd P n j = i
  | 0, j, i, h1, h2, _, _ => by show j = i; omega
  | n + 1, j, i, h1, h2, h3, h4 => by
    unfold fnd
    by_cases hj : j = i
    · subst hj
      rw [if_neg (by rcases h4 with h4 | h4; · omega
                     · exact h4)]
    · rw [if_pos (h3 j (Nat.le_refl _) (by omega))]
      exact fnd_eq n (j + 1) (by omega) (by omega) (fun k hk => h3 k (by omega)) (by rcases h4 with h4 | h4; · exact .inl (by omega)
                                                                                     · exact .inr h4)
abbrev ltQ (Q : Nat → Ev) (x y u : Int) (k : Nat) : Prop := pc (Q k).x (Q k).y (Q k).u x y u < 0
def pidx (l : Nat) (Q : Nat → Ev) (x y u : Int) : Nat := fnd (ltQ Q x y u) l 0
theorem pidx_eq {l : Nat} {Q : Nat → Ev} {x y u : Int} {i : Nat} (h1 : i ≤ l) (h2 : ∀ k, k < i → ltQ Q x y u k) (h3 : i = l ∨ ¬ ltQ Q x y u i) : pidx l Q x y u = i :=
  fnd_eq l 0 (Nat.zero_le _) (by omega) (fun k _ hk => h2 k hk) (by rcases h3 with h3 | h3; · exact .inl (by omega)
                                                                    · exact .inr h3)
abbrev samE (Q : Nat → Ev) (x y u : Int) (i : Nat) : Prop := x = (Q i).x ∧ y = (Q i).y ∧ u = (Q i).u
def fdQ (l : Nat) (Q : Nat → Ev) (x y u : Int) : Prop := pidx l Q x y u < l ∧ samE Q x y u (pidx l Q x y u)
instance (l : Nat) (Q : Nat → Ev) (x y u : Int) : Decidable (fdQ l Q x y u) := by unfold fdQ; infer_instance
def putS (l : Nat) (Q : Nat → Ev) (x y u n : Int) : Prop := (evsOk l Q ∧ pOk x y u ∧ (0 ≤ n ∧ n ≤ 39)) ∧ (fdQ l Q x y u ∨ l < 200)
instance (l : Nat) (Q : Nat → Ev) (x y u n : Int) : Decidable (putS l Q x y u n) := by unfold putS; infer_instance
def putN (l : Nat) (Q : Nat → Ev) (x y u n : Int) : Nat := if putS l Q x y u n then (if fdQ l Q x y u then l else l + 1) else 0
def insF {α : Type} (f : Nat → α) (i : Nat) (a : α) : Nat → α := fun k => if k < i then f k else if k = i then a else f (k - 1)
def putQ (l : Nat) (Q : Nat → Ev) (x y u n : Int) : Nat → Ev :=
  if fdQ l Q x y u then updA Q (pidx l Q x y u) ⟨(Q (pidx l Q x y u)).x, (Q (pidx l Q x y u)).y, (Q (pidx l Q x y u)).u, withL (Q (pidx l Q x y u)).es n⟩ else insF Q (pidx l Q x y u) ⟨x, y, u, [n]⟩
theorem putN_f {l : Nat} {Q : Nat → Ev} {x y u n : Int} (h : ¬ putS l Q x y u n) : putN l Q x y u n = 0 := if_neg h
theorem putN_d {l : Nat} {Q : Nat → Ev} {x y u n : Int} (h : putS l Q x y u n) (hd : fdQ l Q x y u) : putN l Q x y u n = l := by unfold putN; rw [if_pos h, if_pos hd]
theorem putN_n {l : Nat} {Q : Nat → Ev} {x y u n : Int} (h : putS l Q x y u n) (hd : ¬ fdQ l Q x y u) : putN l Q x y u n = l + 1 := by unfold putN; rw [if_pos h, if_neg hd]
theorem putN_le {l : Nat} {Q : Nat → Ev} {x y u n : Int} : putN l Q x y u n ≤ 200 := by
  unfold putN
  split
  · rename_i h
    have := h.1.1.1
    split
    · omega
    · rename_i hd; rcases h.2 with h2 | h2
      · exact absurd h2 hd
      · omega
  · omega
theorem putQ_F {l : Nat} {Q : Nat → Ev} {x y u n : Int} (hf : evF l Q) (hx : fits x ∧ fits y ∧ fits u) : evF (putN l Q x y u n) (putQ l Q x y u n) := fun i hi => by
  by_cases hS : putS l Q x y u n
  · by_cases hd : fdQ l Q x y u
    · rw [putN_d hS hd] at hi
      unfold putQ
      rw [if_pos hd]
      by_cases hip : i = pidx l Q x y u
      · subst hip
        rw [updA_same]
        have h1 := hf _ hi
        have h2 := (hS.1.1.2 _ hi).2.2.1
        have h3 := with_len (x := n) h2
        have h4 := rise_len h2
        exact ⟨h1.1, by show (withL _ _).length ≤ _; omega⟩
      · rw [updA_ne _ _ hip]; exact hf i hi
    · rw [putN_n hS hd] at hi
      unfold putQ insF
      rw [if_neg hd]
      by_cases h1 : i < pidx l Q x y u
      · have hpl : pidx l Q x y u ≤ l := by
          have : ∀ (m j : Nat), fnd (ltQ Q x y u) m j ≤ j + m := by
            intro m
            induction m with
            | zero => intro j; exact Nat.le_refl _
            | succ m ih => intro j; unfold fnd; split
                           · have := ih (j + 1); omega
                           · omega
          have := this l 0
          unfold pidx; omega
        simp only [h1, if_true]
        exact hf i (by omega)
      · simp only [h1, if_false]
        by_cases h2 : i = pidx l Q x y u
        · simp only [h2, if_true]; exact ⟨hx, by simp⟩
        · simp only [h2, if_false]; exact hf (i - 1) (by omega)
  · rw [putN_f hS] at hi; omega
theorem wl12_eq {a b c x y u : Int} (ha : fits a) (hb : fits b) (hc : fits c) (hx : fits x) (hy : fits y) (hu : fits u) :
    ([wv3 a, wv2 a, wv1 a, wv0 a, wv3 b, wv2 b, wv1 b, wv0 b, wv3 c, wv2 c, wv1 c, wv0 c] : List Int) = [wv3 x, wv2 x, wv1 x, wv0 x, wv3 y, wv2 y, wv1 y, wv0 y, wv3 u, wv2 u, wv1 u, wv0 u] ↔ x = a ∧ y = b ∧ u = c := by
  constructor
  · intro h
    simp only [List.cons.injEq, and_true] at h
    obtain ⟨h1, h2, h3, h4, h5, h6, h7, h8, h9, h10, h11, h12⟩ := h
    exact ⟨(wv_inj ha hx h1 h2 h3 h4).symm, (wv_inj hb hy h5 h6 h7 h8).symm, (wv_inj hc hu h9 h10 h11 h12).symm⟩
  · rintro ⟨rfl, rfl, rfl⟩; rfl
theorem putE_d {l : Nat} {Q : Nat → Ev} {x y u n : Int} {k : Nat} (hd : fdQ l Q x y u) (hp : pidx l Q x y u = k) : (∀ i, evW (putQ l Q x y u n i) = evW (Q i)) ∧ ∀ i, (putQ l Q x y u n i).es = if i = k then withL (Q k).es n else (Q i).es := by
  subst hp
  unfold putQ
  rw [if_pos hd]
  refine ⟨fun i => ?_, fun i => ?_⟩ <;> by_cases h : i = pidx l Q x y u
  · rw [h, updA_same]; rfl
  · rw [updA_ne _ _ h]
  · rw [if_pos h, h, updA_same]
  · rw [if_neg h, updA_ne _ _ h]
theorem putE_n {l : Nat} {Q : Nat → Ev} {x y u n : Int} {k : Nat} (hd : ¬ fdQ l Q x y u) (hp : pidx l Q x y u = k) : (∀ i, evW (putQ l Q x y u n i) = evW (insF Q k ⟨x, y, u, []⟩ i)) ∧ ∀ i, (putQ l Q x y u n i).es = if i = k then [n] else (insF Q k ⟨x, y, u, []⟩ i).es := by
  subst hp
  unfold putQ
  rw [if_neg hd]
  refine ⟨fun i => ?_, fun i => ?_⟩ <;> by_cases h : i = pidx l Q x y u
  · rw [h]; unfold insF; rw [if_neg (Nat.lt_irrefl _), if_pos rfl, if_neg (Nat.lt_irrefl _), if_pos rfl]; rfl
  · unfold insF; split
    · rfl
    · simp only [if_neg h]
  · rw [if_pos h, h]; unfold insF; rw [if_neg (Nat.lt_irrefl _), if_pos rfl]
  · rw [if_neg h]; unfold insF; split
    · rfl
    · simp only [if_neg h]
theorem sortE {E0 : Nat → List Int} {k : Nat} {n : Int} (hr : riseP (E0 k)) (hn : n ∉ E0 k) (i : Nat) : updA (updA E0 k (E0 k ++ [n])) k (((updA E0 k (E0 k ++ [n])) k).mergeSort (fun a b => decide (a ≤ b))) i = if i = k then withL (E0 k) n else E0 i := by
  by_cases h : i = k
  · subst h; rw [updA_same, updA_same, with_sort hr hn, if_pos rfl]
  · rw [updA_ne _ _ h, updA_ne _ _ h, if_neg h]
theorem putE_m {l : Nat} {Q : Nat → Ev} {x y u n : Int} {k : Nat} (hd : ¬ fdQ l Q x y u) (hp : pidx l Q x y u = k) : (∀ i, evW (putQ l Q x y u n i) = insF (fun q => evW (Q q)) k (evW ⟨x, y, u, [n]⟩) i) ∧ ∀ i, (putQ l Q x y u n i).es = insF (fun q => (Q q).es) k [n] i := by
  subst hp
  unfold putQ
  rw [if_neg hd]
  refine ⟨fun i => ?_, fun i => ?_⟩ <;> by_cases h : i = pidx l Q x y u
  · rw [h]; unfold insF; rw [if_neg (Nat.lt_irrefl _), if_pos rfl, if_neg (Nat.lt_irrefl _), if_pos rfl]
  · unfold insF; split
    · rfl
    · simp only [if_neg h]
  · rw [h]; unfold insF; rw [if_neg (Nat.lt_irrefl _), if_pos rfl, if_neg (Nat.lt_irrefl _), if_pos rfl]
  · unfold insF; split
    · rfl
    · simp only [if_neg h]
theorem riseP_nil : riseP [] := fun i hi => absurd hi (Nat.not_lt_zero _)
end Go.Proofs.YtmbpomcbdopgnaaGreat.Fw
set_option linter.unusedVariables false
set_option linter.unusedSimpArgs false
namespace Go.Proofs.YtmbpomcbdopgnaaGreat.Fw
open Go Go.RowKit
structure INN (w : World) (lo hi T' l : Nat) (E : Nat → List Int) (SL : SlF) : Prop where
  lh : lo ≤ hi ∧ hi ≤ w.heap.size
  inner : ∀ i, i < l → Ow w lo T' .i64 (SL i).1 (SL i).2 (E i) ∧ ∀ b o, (SL i).1 = some ⟨b, o, none⟩ → b < hi ∧ ∀ i', i' < l → i' ≠ i → ∀ b' o', (SL i').1 = some ⟨b', o', none⟩ → b' ≠ b
def CEL (l : Nat) (W : Nat → Nat → Int) (E : Nat → List Int) (SL : SlF) (vs : List Value) : Prop := vs.length = l * 13 ∧ ∀ i, i < l → evAt (fun k => vs[k]?) i (W i) (SL i).1 (E i).length (SL i).2
def OwC (w : World) (base T : Nat) (A : Option Addr) (n c : Nat) (vs : List Value) : Prop := w.ownsRow base T 13 (.slice A n c) n vs ∧ base ≤ w.heap.size
section
variable {w w' : World} {lo hi T T' : Nat} {A : Option Addr} {l c : Nat} {W : Nat → Nat → Int} {E : Nat → List Int} {SL : SlF} {vs : List Value}
theorem NG.inn (h : NG w lo hi T T' A l c W E SL) : INN w lo hi T' l E SL := ⟨h.lh, h.inner⟩
theorem NG.cel (h : NG w lo hi T T' A l c W E SL) : ∃ vs, CEL l W E SL vs ∧ OwC w lo T A l c vs := by
  obtain ⟨vs, ho, hc⟩ := h.own
  exact ⟨vs, ⟨ho.1, hc⟩, ho, by have := h.lh; omega⟩
theorem OwC.mono {base base2 : Nat} (h : OwC w base T A l c vs) (hb : base2 ≤ base) : OwC w base2 T A l c vs := by
  obtain ⟨⟨h1, h2⟩, h3⟩ := h
  refine ⟨⟨h1, ?_⟩, Nat.le_trans hb h3⟩
  rcases h2 with h2 | ⟨g, cap, cur, hv, hbg, r⟩
  · exact .inl h2
  · exact .inr ⟨g, cap, cur, hv, Nat.le_trans hb hbg, r⟩
theorem OwC.keep {base : Nat} (h : OwC w base T A l c vs) (hs : w.heap.size ≤ w'.heap.size) (hk : ∀ g ob, (∃ cs fz, ob = .cells cs T fz) → base ≤ g → A = some ⟨g, 0, none⟩ → w.heap[g]? = some ob → w'.heap[g]? = some ob) : OwC w' base T A l c vs :=
  ⟨own_keepS h.1 fun g o cap hv hg hb => by
    rcases h.1.2 with ⟨hv2, _⟩ | ⟨g2, cap2, cur, hv2, hb2, hg2, _⟩
    · rw [hv2] at hv; cases hv
    · injection hv with hA _ _
      injection hv2 with hA2 _ _
      rw [hA] at hA2
      injection hA2 with hA2
      injection hA2 with hA2 _ _
      subst hA2
      refine hk g o ⟨cur, (0, 0), ?_⟩ hb hA hg
      rw [hg] at hg2
      exact Option.some.inj hg2, Nat.le_trans h.2 hs⟩
theorem NG.mk' {base : Nat} (hI : INN w lo hi T' l E SL) (hC : CEL l W E SL vs) (hO : OwC w base T A l c vs) (hb : lo ≤ base) : NG w lo w.heap.size T T' A l c W E SL := by
  have hlh := hI.lh
  have hO' := hO.mono hb
  refine ⟨⟨by omega, Nat.le_refl _⟩, fun g o hA => ?_, ⟨vs, hO'.1, hC.2⟩, fun i hi' => ⟨(hI.inner i hi').1, fun b o hA => ⟨by have := ((hI.inner i hi').2 b o hA).1; omega, ((hI.inner i hi').2 b o hA).2⟩⟩⟩
  rcases hO.1.2 with ⟨hv, _⟩ | ⟨g2, cap, cur, hv, _, hg, _⟩
  · injection hv with h1 _ _; rw [h1] at hA; cases hA
  · injection hv with h1 _ _
    rw [h1] at hA
    injection hA with hA
    injection hA with hA _ _
    rw [← hA]
    exact lt_of_blk hg
theorem INN.keep (h : INN w lo hi T' l E SL) (hs : w.heap.size ≤ w'.heap.size) (hk : ∀ g ob, (∃ cs fz, ob = .cells cs T' fz) → lo ≤ g → g < hi → w.heap[g]? = some ob → w'.heap[g]? = some ob) : INN w' lo hi T' l E SL := by
  refine ⟨⟨h.lh.1, Nat.le_trans h.lh.2 hs⟩, fun i hi' => ⟨?_, (h.inner i hi').2⟩⟩
  obtain ⟨⟨h1, h2⟩, h3⟩ := (h.inner i hi').1
  refine ⟨⟨h1, ?_⟩, Nat.le_trans h3 hs⟩
  rcases h2 with h2 | ⟨g, cap, cur, hv, hb, hg, r⟩
  · exact .inl h2
  · exact .inr ⟨g, cap, cur, hv, hb, hk g _ ⟨_, _, rfl⟩ hb (by injection hv with hA _ _; exact ((h.inner i hi').2 g 0 hA).1) hg, r⟩
theorem INN.ext (h : INN w lo hi T' l E SL) (e : Ext w w') : INN w' lo hi T' l E SL := h.keep e.size fun _ _ _ _ _ hg => e.blk hg
theorem INN.bl {base : Nat} (h : INN w lo hi T' l E SL) (e : Below base w w') (hb : hi ≤ base) : INN w' lo hi T' l E SL := h.keep e.size fun g _ _ _ h2 hg => (e.block g (by omega)).trans hg
theorem INN.bt {T1 : Nat} (h : INN w lo hi T' l E SL) (e : Bt T1 w w') (hs : w.heap.size ≤ w'.heap.size) (hT : T' ≠ T1) : INN w' lo hi T' l E SL := h.keep hs fun g ob ⟨cs, fz, he⟩ _ _ hg => by
  subst he
  exact e.keep g _ hg fun cs2 fz2 h2 => by injection h2 with _ h2 _; exact hT h2
theorem insF_at {α : Type} (f : Nat → α) (i : Nat) (a : α) : insF f i a i = a := by unfold insF; rw [if_neg (Nat.lt_irrefl _), if_pos rfl]
theorem insF_ne {α : Type} (f : Nat → α) {i q : Nat} (a : α) (h : q ≠ i) : insF f i a q = f (if q < i then q else q - 1) := by
  unfold insF
  by_cases h1 : q < i
  · rw [if_pos h1, if_pos h1]
  · rw [if_neg h1, if_neg h, if_neg h1]
theorem insF_map {α β : Type} (g : α → β) (f : Nat → α) (i : Nat) (a : α) : (fun q => g (insF f i a q)) = insF (fun q => g (f q)) i (g a) := funext fun q => by
  by_cases h : q = i
  · subst h; rw [insF_at, insF_at]
  · rw [insF_ne _ _ h, insF_ne _ _ h]
theorem INN.ins {s i c1 : Nat} {A1 : Option Addr} {L1 : List Int} (h : INN w lo hi T' l E SL) (hi' : i ≤ l) (hO : Ow w s T' .i64 A1 c1 L1) (hs : hi ≤ s) : INN w lo w.heap.size T' (l + 1) (insF E i L1) (insF SL i (A1, c1)) := by
  have hlh := h.lh
  refine ⟨⟨by omega, Nat.le_refl _⟩, fun q hq => ?_⟩
  by_cases hqi : q = i
  · subst hqi
    rw [insF_at, insF_at]
    refine ⟨hO.mono (by omega), fun b o hA => ⟨hO.lt b o hA, fun i' hi2 hne b' o' hb' => ?_⟩⟩
    rw [insF_ne _ _ hne] at hb'
    have h1 := ((h.inner _ (by split <;> omega)).2 b' o' hb').1
    have h2 := hO.ge hA
    omega
  · rw [insF_ne _ _ hqi, insF_ne _ _ hqi]
    obtain ⟨h1, h2⟩ := h.inner (if q < i then q else q - 1) (by split <;> omega)
    refine ⟨h1, fun b o hA => ⟨by have := (h2 b o hA).1; omega, fun i' hi2 hne b' o' hb' => ?_⟩⟩
    by_cases hii : i' = i
    · subst hii
      rw [insF_at] at hb'
      have h3 := hO.ge hb'
      have h4 := (h2 b o hA).1
      omega
    · rw [insF_ne _ _ hii] at hb'
      exact (h2 b o hA).2 _ (by split <;> omega) (by split <;> split <;> omega) b' o' hb'
theorem CEL.ins {i c1 : Nat} {A1 : Option Addr} {L1 : List Int} {ws : Nat → Int} (h : CEL l W E SL vs) (hi' : i ≤ l) : CEL (l + 1) (insF W i ws) (insF E i L1) (insF SL i (A1, c1)) (vs.take (i * 13) ++ evC ws A1 L1.length c1 ++ vs.drop (i * 13)) := by
  obtain ⟨h0, h1⟩ := h
  have htl : (vs.take (i * 13)).length = i * 13 := by rw [List.length_take]; omega
  have hel : (evC ws A1 L1.length c1).length = 13 := rfl
  refine ⟨by simp [h0, hel, List.length_take]; omega, fun q hq => ?_⟩
  have lowr : ∀ k, k < i * 13 → (vs.take (i * 13) ++ evC ws A1 L1.length c1 ++ vs.drop (i * 13))[k]? = vs[k]? := fun k hk => by
    rw [List.append_assoc, List.getElem?_append_left (by omega), List.getElem?_take_of_lt hk]
  have midr : ∀ j, j < 13 → (vs.take (i * 13) ++ evC ws A1 L1.length c1 ++ vs.drop (i * 13))[i * 13 + j]? = (evC ws A1 L1.length c1)[j]? := fun j hj => by
    rw [List.append_assoc, List.getElem?_append_right (by omega), List.getElem?_append_left (by omega)]
    congr 1; omega
  have higr : ∀ k, i * 13 + 13 ≤ k → (vs.take (i * 13) ++ evC ws A1 L1.length c1 ++ vs.drop (i * 13))[k]? = vs[k - 13]? := fun k hk => by
    rw [List.getElem?_append_right (by rw [List.length_append]; omega), List.getElem?_drop, List.length_append, htl, hel]
    congr 1; omega
  by_cases hqi : q = i
  · subst hqi
    rw [insF_at, insF_at, insF_at]
    exact ⟨fun j hj => (midr j (by omega)).trans (evC_at hj), midr 12 (by omega)⟩
  · rw [insF_ne _ _ hqi, insF_ne _ _ hqi, insF_ne _ _ hqi]
    by_cases h2 : q < i
    · rw [if_pos h2]
      obtain ⟨h5, h6⟩ := h1 q (by omega)
      exact ⟨fun j hj => (lowr _ (by omega)).trans (h5 j hj), (lowr _ (by omega)).trans h6⟩
    · rw [if_neg h2]
      obtain ⟨h5, h6⟩ := h1 (q - 1) (by omega)
      have e : ∀ j, q * 13 + j - 13 = (q - 1) * 13 + j := fun j => by omega
      exact ⟨fun j hj => (higr _ (by omega)).trans (by rw [e]; exact h5 j hj), (higr _ (by omega)).trans (by rw [e]; exact h6)⟩
structure HOL (w : World) (lo hi T T' : Nat) (A : Option Addr) (l c : Nat) (W : Nat → Nat → Int) (E : Nat → List Int) (SL : SlF) (i : Nat) (A' : Option Addr) : Prop where
  lh : lo ≤ hi ∧ hi ≤ w.heap.size
  rlt : ∀ g o, A = some ⟨g, o, none⟩ → g < hi
  row : ∃ vs, CEL l W E SL vs ∧ OwC w lo T A l c vs
  inner : ∀ q, q < l → q ≠ i → Ow w lo T' .i64 (SL q).1 (SL q).2 (E q) ∧ ∀ b o, (SL q).1 = some ⟨b, o, none⟩ → b < hi ∧ (∀ q', q' < l → q' ≠ i → q' ≠ q → ∀ b' o', (SL q').1 = some ⟨b', o', none⟩ → b' ≠ b) ∧ ∀ b' o', A' = some ⟨b', o', none⟩ → b' ≠ b
  new : ∀ b o, A' = some ⟨b, o, none⟩ → b < hi
theorem Ow.ne_row2 {base s2 b o g : Nat} {c2 : Nat} {A2 : Option Addr} {L : List Int} (hO : Ow w s2 T' .i64 A2 c2 L) (hT : T ≠ T') (hC : OwC w base T A l c vs) (hA : A = some ⟨g, o, none⟩) {o2 : Nat} (hA2 : A2 = some ⟨b, o2, none⟩) : b ≠ g := by
  rcases hC.1.2 with ⟨hv, _⟩ | ⟨g2, cap, cur, hv, _, hg, _⟩
  · injection hv with h1 _ _; rw [h1] at hA; cases hA
  · injection hv with h1 _ _
    rw [h1] at hA
    injection hA with hA
    injection hA with hA _ _
    subst hA
    exact hO.ne_row hT hg hA2
theorem HOL.fresh {i s c1 : Nat} {A1 : Option Addr} {L1 : List Int} (h : NG w lo hi T T' A l c W E SL) (hO : Ow w s T' .i64 A1 c1 L1) (hs : hi ≤ s) : HOL w lo w.heap.size T T' A l c W E SL i A1 := by
  have hlh := h.lh
  refine ⟨⟨by omega, Nat.le_refl _⟩, fun g o hA => by have := h.rlt g o hA; omega, h.cel, fun q hq hqi => ⟨(h.inner q hq).1, fun b o hA => ⟨by have := ((h.inner q hq).2 b o hA).1; omega, fun q' hq' _ hne b' o' hb' => ((h.inner q hq).2 b o hA).2 q' hq' hne b' o' hb', fun b' o' hb' => ?_⟩⟩, fun b o hA => hO.lt b o hA⟩
  have := ((h.inner q hq).2 b o hA).1
  have := hO.ge hb'
  omega
end
section
variable {P : Program} {n : Nat} {fr : Fr} {w : World} {ty : TypeId} {lo hi T T' : Nat} {l c : Nat} {W : Nat → Nat → Int} {E : Nat → List Int} {SL : SlF}
theorem oe_storeI {t : TypeId} {x y : Operand} {g i c' m : Nat} {A' : Option Addr} {L : List Int} {K : Value → World → Prop} (hs : sizeB P t = some 1) (hx : EV n fr x (.pointer (some ⟨g, 0 + (i * 13 + 12), none⟩))) (hy : EV n fr y (.slice A' m c'))
    (hH : HOL w lo hi T T' (some ⟨g, 0, none⟩) l c W E SL i A') (hO : Ow w lo T' .i64 A' c' L) (hm : m = L.length) (hT : T ≠ T') (hi' : i < l)
    (h : ∀ w', NG w' lo hi T T' (some ⟨g, 0, none⟩) l c W (updA E i L) (updA SL i (A', c')) → Below lo w w' → St g w w' → K undef w') : OE P n (.store t x y) ty fr w K := by
  subst hm
  obtain ⟨vs, hC, hR⟩ := hH.row
  rw [Nat.zero_add] at hx
  rcases hR.1.2 with ⟨hv, hn⟩ | ⟨g', cap, cur, hv, hb, hg, h1, h2, h3, h4⟩
  · injection hv with hA _ _
    cases hA
  · have hvs := hR.1.1
    injection hv with hA _ hc
    injection hA with hA
    injection hA with h5 _ _
    subst h5; subst hc
    have hms := Nat.mul_le_mul_right 13 h1
    have hlc : i * 13 + 12 < cur.toList.length := by simp; omega
    have hst : stC cur.toList (i * 13 + 12) [.slice A' L.length c'] = some (cur.toList.set (i * 13 + 12) (.slice A' L.length c')) := by
      have := stC_mid (i * 13 + 12) cur.toList [.slice A' L.length c'] (by simp at hlc ⊢; omega)
      rw [this, List.set_eq_take_append_cons_drop, if_pos hlc]
      simp
    have hlt := lt_of_blk hg
    refine oe_store hx hy hs rfl rfl rfl (cs := cur.toList) (T := T) (by simpa using hg) hst fun w' e hb' => h w' ?_ ⟨e.os, e.tape, e.output, Nat.le_of_eq e.size.symm, fun j hj => e.block j (by omega)⟩ e
    have hkeep : ∀ A2 c2 s2 L2, Ow w s2 T' .i64 A2 c2 L2 → Ow w' s2 T' .i64 A2 c2 L2 := fun A2 c2 s2 L2 hO2 => hO2.keep (Nat.le_of_eq e.size.symm) fun b o2 ob hA2 hb2 => e.blk hb2 (hO2.ne_row2 hT hR rfl hA2)
    refine ⟨⟨hH.lh.1, by rw [e.size]; exact hH.lh.2⟩, hH.rlt, ⟨vs.set (i * 13 + 12) (.slice A' L.length c'), ⟨by simpa using hvs, .inr ⟨g, c, _, rfl, hb, hb', by simpa using h1, h2, by simpa using h3, ?_⟩⟩, fun q hq => ?_⟩, fun q hq => ?_⟩
    · simp only
      rw [List.take_set, h4]
    · obtain ⟨h5, h6⟩ := hC.2 q hq
      by_cases hqi : q = i
      · subst hqi
        rw [updA_same, updA_same]
        refine ⟨fun j hj => ?_, ?_⟩
        · show (vs.set (q * 13 + 12) _)[q * 13 + j]? = _
          rw [List.getElem?_set_ne (by omega)]; exact h5 j hj
        · show (vs.set (q * 13 + 12) _)[q * 13 + 12]? = _
          rw [List.getElem?_set_self (by rw [hC.1]; omega)]
      · rw [updA_ne _ _ hqi, updA_ne _ _ hqi]
        refine ⟨fun j hj => ?_, ?_⟩
        · show (vs.set (i * 13 + 12) _)[q * 13 + j]? = _
          rw [List.getElem?_set_ne (by omega)]; exact h5 j hj
        · show (vs.set (i * 13 + 12) _)[q * 13 + 12]? = _
          rw [List.getElem?_set_ne (by omega)]; exact h6
    · by_cases hqi : q = i
      · subst hqi
        rw [updA_same, updA_same]
        refine ⟨hkeep _ _ _ _ hO, fun b o hA2 => ⟨hH.new b o hA2, fun i' hi2 hne b' o' hb2 he => ?_⟩⟩
        rw [updA_ne _ _ hne] at hb2
        exact ((hH.inner i' hi2 hne).2 b' o' hb2).2.2 b o hA2 he.symm
      · rw [updA_ne _ _ hqi, updA_ne _ _ hqi]
        obtain ⟨h5, h6⟩ := hH.inner q hq hqi
        refine ⟨hkeep _ _ _ _ h5, fun b o hA2 => ⟨(h6 b o hA2).1, fun i' hi2 hne b' o' hb2 => ?_⟩⟩
        by_cases hii : i' = i
        · subst hii
          rw [updA_same] at hb2
          exact (h6 b o hA2).2.2 b' o' hb2
        · rw [updA_ne _ _ hii] at hb2
          exact (h6 b o hA2).2.1 i' hi2 hii hne b' o' hb2
theorem oe_appendI {t e : TypeId} {x y : Operand} {A : Option Addr} {i n1 c1 bytes b2 c2 T2 : Nat} {A1 : Option Addr} {z : Int} {K : Value → World → Prop} (ht : P.underlying t = some (.slice e))
    (hinf : (P.info? e).map (fun i => (i.zero, i.size, i.bytes)) = some (some (.int .i64 0), 1, bytes)) (hx : EV n fr x (.slice A1 n1 c1)) (hy : EV n fr y (.slice (some ⟨b2, 0, none⟩) 1 c2))
    (hN : NG w lo hi T e A l c W E SL) (hT : T ≠ e) (hi' : i < l) (hA1 : A1 = (SL i).1) (hn1 : n1 = (E i).length) (hc1 : c1 = (SL i).2) (hg : w.heap[b2]? = some (.cells #[.int .i64 z] T2)) (hb : (n1 + 1) * bytes ≤ 140737488355328) (hl : n1 + 1 ≤ 140737488355328)
    (h : ∀ A' c' w', HOL w' lo w'.heap.size T e A l c W E SL i A' → Ow w' lo e .i64 A' c' (E i ++ [z]) → Below lo w w' → K (.slice A' (n1 + 1) c') w') : OE P n (.call { callee := .builtin .append, args := #[x, y], argTypes := #[t, t] }) ty fr w K := by
  subst hA1; subst hn1; subst hc1
  have hO := (hN.inner i hi').1
  have hlh := hN.lh
  cases hin : P.info? e with
  | none => simp [hin] at hinf
  | some inf =>
    simp only [hin, Option.map_some, Option.some.injEq, Prod.mk.injEq] at hinf
    obtain ⟨h1, h2, h3⟩ := hinf
    obtain ⟨v', w', hr, hown, hgr, _, hat⟩ := run_append_own_at (P := P) w lo t ty e inf (.int .i64 0) 1 bytes ht hin h1 h2 h3 rfl (by decide) (.slice (SL i).1 (E i).length (SL i).2) (E i).length _ hO.1 ⟨b2, 0, none⟩ 1 c2 ([z].map (Value.int .i64)) (by simp)
      (fun j u hj => by
        have ha : (⟨b2, 0, none⟩ : Addr).add j = ⟨b2, 0 + j, none⟩ := by unfold Addr.add; split <;> simp_all
        rw [ha, cell_of_row w b2 (0 + j) _ T2 _ hg, Nat.zero_add]
        simpa using hj) (ints_oneCell .i64 [z]) (by simp only [maxLen]; omega) hb hO.2
    obtain ⟨A', c', rfl⟩ := own_slice hown
    have hO' : Ow w' lo e .i64 A' c' (E i ++ [z]) := by
      unfold Ow
      rw [List.length_append, List.map_append]
      exact ⟨hown, Nat.le_trans hO.2 hgr.size⟩
    have hblk : ∀ k, k < w.heap.size → (∀ o, (SL i).1 ≠ some ⟨k, o, none⟩) → w'.heap[k]? = w.heap[k]? := fun k hk hne => hgr.block k hk fun he => by
      rcases hO.1.2 with ⟨hv, _⟩ | ⟨g4, cap, cur, hv, _⟩
      · injection hv with hA4 _ _
        rw [hA4] at he; simp [Value.ownBlock] at he
      · injection hv with hA4 _ _
        rw [hA4] at he
        simp only [Value.ownBlock, Option.some.injEq] at he
        exact hne 0 (by rw [hA4, he])
    have hA' : ∀ b o, A' = some ⟨b, o, none⟩ → b < w'.heap.size ∧ ∀ q, q < l → q ≠ i → ∀ b' o', (SL q).1 = some ⟨b', o', none⟩ → b' ≠ b := fun b o hA2 => ⟨hO'.lt b o hA2, fun q hq hqi b' o' hb' => by
      have hq1 := ((hN.inner q hq).2 b' o' hb').1
      rw [hA2] at hat
      rcases hat with hat | hat
      · rcases hO.1.2 with ⟨hv, _⟩ | ⟨g4, cap, cur, hv, _⟩
        · injection hv with hA4 _ _
          rw [hA4] at hat; simp [Value.ownBlock] at hat
        · injection hv with hA4 _ _
          rw [hA4] at hat
          simp only [Value.ownBlock, Option.some.injEq] at hat
          subst hat
          exact ((hN.inner i hi').2 b 0 hA4).2 q hq hqi b' o' hb'
      · simp only [Value.ownBlock, Option.some.injEq] at hat
        omega⟩
    refine OE.of_run (fun _ _ _ _ => ?_) (h A' c' w' ⟨⟨by have := hgr.size; omega, Nat.le_refl _⟩, fun g o hA => by have := hN.rlt g o hA; have := hgr.size; omega, ?_, fun q hq hqi => ⟨?_, fun b o hA2 => ⟨?_, ?_, ?_⟩⟩, fun b o hA2 => (hA' b o hA2).1⟩ hO' (below_of_grown hgr hO.2 (own_row_ge hO.1)))
    · unfold EV at hx hy
      simp only [execOp, resolve, invoke, builtin, hx, hy, hr, List.map_toArray, List.map_cons, List.map_nil, Sem.run_bind, Sem.run_pure, Result.andThen_ok]
    · obtain ⟨vs, hC, hR⟩ := hN.cel
      exact ⟨vs, hC, hR.keep hgr.size fun g ob _ _ hA hg2 => (hblk g (lt_of_blk hg2) fun o he => hO.ne_row2 hT hR hA he rfl).trans hg2⟩
    · exact (hN.inner q hq).1.keep hgr.size fun g o ob hA hg2 => (hblk g (lt_of_blk hg2) fun o2 he => ((hN.inner q hq).2 g o hA).2 i hi' (Ne.symm hqi) g o2 he rfl).trans hg2
    · have := ((hN.inner q hq).2 b o hA2).1; have := hgr.size; omega
    · exact fun q' hq' _ hne b' o' hb' => ((hN.inner q hq).2 b o hA2).2 q' hq' hne b' o' hb'
    · exact fun b' o' hb' he => (hA' b' o' hb').2 q hq hqi b o hA2 he.symm
end
end Go.Proofs.YtmbpomcbdopgnaaGreat.Fw
set_option linter.unusedVariables false
set_option linter.unusedSimpArgs false
namespace Go.Proofs.YtmbpomcbdopgnaaGreat.Fw
open Go Go.RowKit Go.Lib
theorem Bt.refl (T : Nat) (w : World) : Bt T w w := ⟨fun _ _ h _ => h⟩
theorem Bt.trans {T : Nat} {w w1 w2 : World} (h : Bt T w w1) (h2 : Bt T w1 w2) : Bt T w w2 := ⟨fun g o hg hne => h2.keep g o (h.keep g o hg hne) hne⟩
theorem Ext.btT {T : Nat} {w w' : World} (e : Ext w w') : Bt T w w' := ⟨fun g o hg _ => e.blk hg⟩
theorem St.btT {T b : Nat} {w w' : World} {cs : Array Value} {fz : Nat × Nat} (e : St b w w') (hg : w.heap[b]? = some (.cells cs T fz)) : Bt T w w' := ⟨fun g o hg2 hne => e.blk hg2 (fun he => by
  subst he
  rw [hg] at hg2
  exact hne _ _ (Option.some.inj hg2).symm)⟩
theorem Ow.btO {w w' : World} {base T T1 c : Nat} {k : IntKind} {A : Option Addr} {L : List Int} (h : Ow w base T k A c L) (e : Bt T1 w w') (hs : w.heap.size ≤ w'.heap.size) (hT : T ≠ T1) : Ow w' base T k A c L := by
  obtain ⟨⟨h1, h2⟩, h3⟩ := h
  refine ⟨⟨h1, ?_⟩, Nat.le_trans h3 hs⟩
  rcases h2 with h2 | ⟨g, cap, cur, hv, hb, hg, r⟩
  · exact .inl h2
  · exact .inr ⟨g, cap, cur, hv, hb, e.keep g _ hg (fun cs fz he => by injection he with _ h2 _; exact hT h2), r⟩
theorem bt_grownC {w w' : World} {base T n c s : Nat} {A : Option Addr} {xs : List Value} (hO : w.ownsRow base T s (.slice A n c) n xs) (h : w.grownBy w' (Value.ownBlock (.slice A n c))) : Bt T w w' := ⟨fun g o hg hne => by
  refine (h.block g (lt_of_blk hg) (fun he => ?_)).trans hg
  rcases hO.2 with ⟨hv, hn⟩ | ⟨g', cap, cur, hv, hb, hg', _⟩
  · injection hv with hA _ _
    rw [hA] at he
    simp [Value.ownBlock] at he
  · injection hv with hA _ hc
    rw [hA] at he
    simp only [Value.ownBlock, Option.some.injEq] at he
    subst he
    rw [hg'] at hg
    exact hne _ _ (Option.some.inj hg).symm⟩
def slA (A : Option Addr) (i c : Nat) : Option Addr := if c = i then A else A.map (·.add (i * 13))
theorem slA_ne {g i c : Nat} (h : c ≠ i) : slA (some ⟨g, 0, none⟩) i c = some ⟨g, i * 13, none⟩ := by
  unfold slA; rw [if_neg h, Option.map_some, addr_addn, Nat.zero_add]
def CelA (w : World) (A : Option Addr) (cs : List Value) : Prop := ∃ g o, A = some ⟨g, o, none⟩ ∧ ∀ (j : Nat) (v : Value), cs[j]? = some v → w.cell? ⟨g, o + j, none⟩ = some v
theorem CelA.take {w : World} {A : Option Addr} {cs : List Value} (h : CelA w A cs) (m : Nat) : CelA w A (cs.take m) := by
  obtain ⟨g, o, hA, hc⟩ := h
  refine ⟨g, o, hA, fun j v hj => ?_⟩
  rw [List.getElem?_take] at hj
  split at hj
  · exact hc j v hj
  · cases hj
theorem CelA.one {w : World} {b T : Nat} {vs : List Value} (H : w.heap[b]? = some (.cells vs.toArray T)) : CelA w (some ⟨b, 0, none⟩) vs :=
  ⟨b, 0, rfl, fun j v hj => by rw [cell_of_row w b (0 + j) _ T _ H, Nat.zero_add]; simpa using hj⟩
section
variable {w w' : World} {base T c l g : Nat} {A : Option Addr} {vs : List Value}
theorem OwC.lt (h : OwC w base T A l c vs) : ∀ g o, A = some ⟨g, o, none⟩ → g < w.heap.size := fun g o hA => (h.1.lt g (by rw [hA]; rfl)).2
theorem OwC.ge (h : OwC w base T A l c vs) : ∀ g o, A = some ⟨g, o, none⟩ → base ≤ g := fun g o hA => (h.1.lt g (by rw [hA]; rfl)).1
theorem OwC.ext (h : OwC w base T A l c vs) (e : Ext w w') : OwC w' base T A l c vs := h.keep e.size fun g ob _ _ _ hg => e.blk hg
theorem OwC.bl {base2 : Nat} (h : OwC w base T A l c vs) (e : Below base2 w w') (hlt : ∀ g o, A = some ⟨g, o, none⟩ → g < base2) : OwC w' base T A l c vs := h.keep e.size fun g ob _ _ hA hg => (e.block g (hlt g 0 hA)).trans hg
theorem OwC.len (h : OwC w base T A l c vs) : vs.length = l * 13 := h.1.1
theorem OwC.opn (h : OwC w base T (some ⟨g, 0, none⟩) l c vs) : base ≤ g ∧ l ≤ c ∧ c ≤ maxLen ∧ ∃ cur : Array Value, w.heap[g]? = some (.cells cur T) ∧ cur.size = c * 13 ∧ cur.toList.take (l * 13) = vs := by
  rcases h.1.2 with ⟨hv, hn⟩ | ⟨g', cap, cur, hv, hb, hg, h1, h2, h3, h4⟩
  · injection hv with h1 _ _; cases h1
  · injection hv with hA _ hc
    injection hA with hA
    injection hA with hA _ _
    subst hA; subst hc
    exact ⟨hb, h1, h2, cur, hg, h3, h4⟩
theorem OwC.mk' {cur : Array Value} (hb : base ≤ g) (hg : w.heap[g]? = some (.cells cur T)) (h1 : l ≤ c) (h2 : c ≤ maxLen) (h3 : cur.size = c * 13) (h4 : cur.toList.take (l * 13) = vs) : OwC w base T (some ⟨g, 0, none⟩) l c vs :=
  ⟨⟨by rw [← h4, List.length_take]; simp only [Array.length_toList, h3]; have := Nat.mul_le_mul_right 13 h1; omega, .inr ⟨g, c, cur, rfl, hb, hg, h1, h2, h3, h4⟩⟩, by have := lt_of_blk hg; omega⟩
theorem OwC.made {w0 w1 : World} {b T : Nat} (h : New w0 b (.cells #[] T) w1) : OwC w1 b T (some ⟨b, 0, none⟩) 0 0 [] := OwC.mk' (cur := #[]) (Nat.le_refl _) h.blk (Nat.le_refl _) (Nat.zero_le _) rfl rfl
theorem OwC.more (h : OwC w base T (some ⟨g, 0, none⟩) l c vs) (hl : l < c) : ∃ jk : List Value, jk.length = 13 ∧ OwC w base T (some ⟨g, 0, none⟩) (l + 1) c (vs ++ jk) := by
  obtain ⟨hb, h1, h2, cur, hg, h3, h4⟩ := h.opn
  refine ⟨(cur.toList.drop (l * 13)).take 13, by rw [List.length_take, List.length_drop]; simp only [Array.length_toList, h3]; omega, OwC.mk' hb hg hl h2 h3 ?_⟩
  rw [Nat.add_mul, Nat.one_mul, List.take_add, h4]
theorem OwC.cel (h : OwC w base T (some ⟨g, 0, none⟩) l c vs) {i : Nat} (hi : i ≤ l) : CelA w (slA (some ⟨g, 0, none⟩) i c) (vs.drop (i * 13)) := by
  obtain ⟨hb, h1, h2, cur, hg, h3, h4⟩ := h.opn
  have hv := h.len
  by_cases hc : c = i
  · unfold slA
    rw [if_pos hc, List.drop_of_length_le (by rw [hv]; omega)]
    exact ⟨g, 0, rfl, fun j v hj => by simp at hj⟩
  · rw [slA_ne hc]
    refine ⟨g, i * 13, rfl, fun j v hj => ?_⟩
    rw [List.getElem?_drop] at hj
    have hjl := (List.getElem?_eq_some_iff.1 hj).1
    rw [cell_of_row w g _ cur T _ hg, ← hj, ← h4, List.getElem?_take_of_lt (by rw [hv] at hjl; exact hjl)]
    simp
theorem OwC.cel0 (h : OwC w base T (some ⟨g, 0, none⟩) l c vs) : CelA w (some ⟨g, 0, none⟩) vs := by
  obtain ⟨hb, h1, h2, cur, hg, h3, h4⟩ := h.opn
  have hv := h.len
  refine ⟨g, 0, rfl, fun j v hj => ?_⟩
  have hjl := (List.getElem?_eq_some_iff.1 hj).1
  rw [cell_of_row w g _ cur T _ hg, ← hj, ← h4, Nat.zero_add, List.getElem?_take_of_lt (by rw [hv] at hjl; exact hjl)]
  simp
end
theorem evC_len {ws : Nat → Int} {A : Option Addr} {n c : Nat} : (evC ws A n c).length = 13 := rfl
theorem evC_one {ws : Nat → Int} {A : Option Addr} {n c : Nat} : ∀ u ∈ evC ws A n c, u.oneCell' = true := fun u hu => by
  simp only [evC, List.mem_cons, List.not_mem_nil, or_false] at hu
  rcases hu with rfl | rfl | rfl | rfl | rfl | rfl | rfl | rfl | rfl | rfl | rfl | rfl | rfl <;> rfl
theorem CEL.one {l : Nat} {W : Nat → Nat → Int} {E : Nat → List Int} {SL : SlF} {vs : List Value} (h : CEL l W E SL vs) : ∀ u ∈ vs, u.oneCell' = true := fun u hu => by
  obtain ⟨k, hk, he⟩ := List.mem_iff_getElem.1 hu
  have hl := h.1
  obtain ⟨h1, h2⟩ := h.2 (k / 13) (by omega)
  have hkk : vs[k]? = some u := by rw [List.getElem?_eq_getElem hk, he]
  by_cases h12 : k % 13 = 12
  · have : vs[k / 13 * 13 + 12]? = _ := h2
    rw [show k / 13 * 13 + 12 = k by omega, hkk] at this
    rw [Option.some.inj this]; rfl
  · have : vs[k / 13 * 13 + k % 13]? = _ := h1 (k % 13) (by omega)
    rw [show k / 13 * 13 + k % 13 = k by omega, hkk] at this
    rw [Option.some.inj this]; rfl
theorem nmin1 {vs : List Value} {d : Nat} (h : 0 < d) (hv : vs.length = 13 := by exact evC_len) : vs.length = Nat.min 1 d * 13 := by rw [show Nat.min 1 d = 1 from Nat.min_eq_left h, hv]
theorem dropL {us : List Value} {l i m d : Nat} (hv : us.length = l * 13) (hi : i ≤ l) (h : (m = l - i ∧ l - i ≤ d) ∨ (d = l - i ∧ l - i ≤ m)) : (us.drop (i * 13)).length = Nat.min m d * 13 := by
  have : Nat.min m d = l - i := by
    rcases h with ⟨rfl, h⟩ | ⟨rfl, h⟩
    · exact Nat.min_eq_left h
    · exact Nat.min_eq_right h
  rw [this, List.length_drop, hv]; omega
section
variable {P : Program} {n : Nat} {fr : Fr} {w : World} {ty : TypeId}
theorem dv_sliceLo {t e : TypeId} {x a : Operand} {A : Option Addr} {l c i : Nat} {k : IntKind} {j : Int} (ht : P.underlying t = some (.slice e)) (hs : sizeB P e = some 13)
    (hx : EV n fr x (.slice A l c)) (ha : EV n fr a (.int k j)) (hj : j = (i : Nat)) (h1 : i ≤ l) : DV P n (.slice t x (some a) none none) ty fr w (.slice (slA A i c) (l - i) (c - i)) := fun _ _ _ _ => by
  subst hj
  unfold EV at hx ha
  unfold sizeB at hs
  cases hin : P.info? e with
  | none => simp [hin] at hs
  | some inf =>
    have hsz : inf.size = 13 := by simpa [hin] using hs
    have h2 : (i : Int) ≤ (l : Int) := by omega
    have h3 : (0 : Int) ≤ (i : Int) := by omega
    simp [execOp, hx, ha, Instr.sliceAt, underlying, ht, Instr.slice, Instr.sliceBounds, Instr.sliceBound, asIntOf, h1, h2, h3, sizeOf, typeInfo, hin, hsz, slA]
theorem dv_capS {x : Operand} {A : Option Addr} {l c : Nat} {t e : TypeId} (ht : P.underlying t = some (.slice e)) (hx : EV n fr x (.slice A l c)) :
    DV P n (.call { callee := .builtin .cap, args := #[x], argTypes := #[t] }) ty fr w (.int .i64 c) := fun _ _ _ _ => by
  unfold EV at hx
  simp [execOp, resolve, invoke, builtin, hx, Builtin.cap_, underlying, ht, goInt]
theorem map_add0 (A : Option Addr) : A.map (fun x => x.add 0) = A := by cases A <;> simp [Addr.add]
theorem dv_sliceHi {t e : TypeId} {x b : Operand} {A : Option Addr} {l c i : Nat} {k : IntKind} {j : Int} (ht : P.underlying t = some (.slice e)) (hs : sizeB P e = some 13)
    (hx : EV n fr x (.slice A l c)) (hb : EV n fr b (.int k j)) (hj : j = (i : Nat)) (h1 : i ≤ c) : DV P n (.slice t x none (some b) none) ty fr w (.slice A i c) := fun _ _ _ _ => by
  subst hj
  unfold EV at hx hb
  unfold sizeB at hs
  cases hin : P.info? e with
  | none => simp [hin] at hs
  | some inf =>
    have hsz : inf.size = 13 := by simpa [hin] using hs
    have h2 : (i : Int) ≤ (c : Int) := by omega
    have h3 : (0 : Int) ≤ (i : Int) := by omega
    simp [execOp, hx, hb, Instr.sliceAt, underlying, ht, Instr.slice, Instr.sliceBounds, Instr.sliceBound, asIntOf, h1, h2, h3, sizeOf, typeInfo, hin, hsz, map_add0]
theorem oe_appendC {t e : TypeId} {x y : Operand} {A A2 : Option Addr} {l c base bytes m c2 : Nat} {us vs : List Value} {z : Value} {K : Value → World → Prop} (ht : P.underlying t = some (.slice e))
    (hinf : (P.info? e).map (fun i => (i.zero, i.size, i.bytes)) = some (some z, 13, bytes)) (hz : z.cells.size = 13) (hx : EV n fr x (.slice A l c)) (hy : EV n fr y (.slice A2 m c2))
    (hO : OwC w base e A l c us) (hC : CelA w A2 vs) (hvl : vs.length = m * 13) (h1v : ∀ u ∈ vs, u.oneCell' = true) (hb : (l + m) * bytes ≤ 140737488355328) (hl : l + m ≤ 140737488355328)
    (h : ∀ A' c' w', OwC w' base e A' (l + m) c' (us ++ vs) → Below base w w' → Bt e w w' → K (.slice A' (l + m) c') w') : OE P n (.call { callee := .builtin .append, args := #[x, y], argTypes := #[t, t] }) ty fr w K := by
  cases hin : P.info? e with
  | none => simp [hin] at hinf
  | some inf =>
    simp only [hin, Option.map_some, Option.some.injEq, Prod.mk.injEq] at hinf
    obtain ⟨h1, h2, h3⟩ := hinf
    obtain ⟨g2, o2, rfl, hc⟩ := hC
    obtain ⟨v', w', hr, hown, hgr, _⟩ := run_append_own (P := P) w base t ty e inf z 13 bytes ht hin h1 h2 h3 hz (by decide) (.slice A l c) l us hO.1 ⟨g2, o2, none⟩ m c2 vs hvl
      (fun j u hj => by rw [addr_addn]; exact hc j u hj) h1v (by simp only [maxLen]; omega) hb hO.2
    obtain ⟨A', c', rfl⟩ := own_sliceS hown
    refine OE.of_run (fun _ _ _ _ => ?_) (h A' c' w' ⟨hown, Nat.le_trans hO.2 hgr.size⟩ (below_of_grown hgr hO.2 fun g hg => (hO.1.lt g hg).1) (bt_grownC hO.1 hgr))
    unfold EV at hx hy
    simp only [execOp, resolve, invoke, builtin, hx, hy, hr, List.map_toArray, List.map_cons, List.map_nil, Sem.run_bind, Sem.run_pure, Result.andThen_ok]
theorem oe_copyC {t t2 e : TypeId} {x y : Operand} {A2 : Option Addr} {g l c base k d c1 m c2 : Nat} {us cs : List Value} {K : Value → World → Prop} (ht : P.underlying t = some (.slice e)) (hs : sizeB P e = some 13)
    (hx : EV n fr x (.slice (slA (some ⟨g, 0, none⟩) k c) d c1)) (hy : EV n fr y (.slice A2 m c2)) (hO : OwC w base e (some ⟨g, 0, none⟩) l c us) (hk : k < l) (hd : d = l - k)
    (hC : CelA w A2 cs) (hcl : cs.length = Nat.min m d * 13) (h1v : ∀ u ∈ cs, u.oneCell' = true)
    (h : ∀ w', OwC w' base e (some ⟨g, 0, none⟩) l c (us.take (k * 13) ++ cs ++ us.drop (k * 13 + cs.length)) → St g w w' → Bt e w w' → K (goInt (Nat.min m d)) w') : OE P n (.call { callee := .builtin .copy, args := #[x, y], argTypes := #[t, t2] }) ty fr w K := by
  obtain ⟨hb, h1, h2, cur, hg, h3, h4⟩ := hO.opn
  obtain ⟨g2, o2, rfl, hc⟩ := hC
  have hus := hO.len
  have hmin : Nat.min m d ≤ d := Nat.min_le_right _ _
  have hfit : k * 13 + cs.length ≤ l * 13 := by rw [hcl]; have := Nat.mul_le_mul_right 13 hmin; omega
  have hlc : l * 13 ≤ cur.size := by rw [h3]; exact Nat.mul_le_mul_right 13 h1
  have hld := run_loadCells_list (P := P) w ⟨g2, o2, none⟩ cs (fun j v hj => by rw [addr_addn]; exact hc j v hj)
  have hst := run_storeCells_at P g (k * 13) e cs 0 cur w hg (by omega) h1v
  rw [slA_ne (by omega)] at hx
  have hr : (Builtin.copy_ #[t, t2] ty #[.slice (some ⟨g, k * 13, none⟩) d c1, .slice (some ⟨g2, o2, none⟩) m c2]).run P w = .ok (goInt (Nat.min m d)) (w.setRow g (cur.toList.take (k * 13 + 0) ++ cs ++ cur.toList.drop (k * 13 + 0 + cs.length)).toArray) := by
    cases hin : P.info? e with
    | none => simp [sizeB, hin] at hs
    | some inf =>
      have hsz : inf.size = 13 := by simpa [sizeB, hin] using hs
      simp only [Builtin.copy_, run_underlying ht, Builtin.lenOf, Builtin.firstCells, sizeOf, typeInfo, hin, hsz, ← hcl, hld, hst, Sem.run_bind, Sem.run_pure, Result.andThen_ok, List.getElem?_toArray, List.getElem?_cons_zero, List.getElem?_cons_succ]
      simp [Builtin.copy_, run_underlying ht, Builtin.lenOf, Builtin.firstCells, sizeOf, typeInfo, hin, hsz, ← hcl, hld, hst]
  have hset : (w.setRow g (cur.toList.take (k * 13 + 0) ++ cs ++ cur.toList.drop (k * 13 + 0 + cs.length)).toArray).heap[g]? = some (.cells (cur.toList.take (k * 13 + 0) ++ cs ++ cur.toList.drop (k * 13 + 0 + cs.length)).toArray e) := setRow_heap w g cur _ e _ hg
  have hstS : St g w (w.setRow g (cur.toList.take (k * 13 + 0) ++ cs ++ cur.toList.drop (k * 13 + 0 + cs.length)).toArray) := by
    exact ⟨rfl, rfl, rfl, by simp [World.setRow], fun q hq => by simp [World.setRow, Array.getElem?_modify, Ne.symm hq]⟩
  have hge := hb
  refine OE.of_run (fun _ _ _ _ => ?_) (h _ (OwC.mk' hb hset h1 h2 ?_ ?_) hstS (hstS.btT hg))
  · unfold EV at hx hy
    simp only [execOp, resolve, invoke, builtin, hx, hy, hr, List.map_toArray, List.map_cons, List.map_nil, Sem.run_bind, Sem.run_pure, Result.andThen_ok]
  · simp only [List.size_toArray, List.length_append, List.length_take, List.length_drop, Array.length_toList, ← h3]; omega
  · subst h4
    simp only [Nat.add_zero]
    apply List.ext_getElem?
    intro q
    have hcz : (cur.toList.take (k * 13)).length = k * 13 := by rw [List.length_take, Array.length_toList]; omega
    have hcl2 : (cur.toList.take (k * 13) ++ cs).length = k * 13 + cs.length := by rw [List.length_append, hcz]
    by_cases hq : q < l * 13
    · rw [List.getElem?_take_of_lt hq, List.take_take, Nat.min_eq_left (by omega)]
      by_cases hq2 : q < k * 13 + cs.length
      · exact (List.getElem?_append_left (by rw [hcl2]; exact hq2)).trans (List.getElem?_append_left (by rw [hcl2]; exact hq2)).symm
      · refine (List.getElem?_append_right (by rw [hcl2]; omega)).trans (Eq.trans ?_ (List.getElem?_append_right (by rw [hcl2]; omega)).symm)
        rw [hcl2, List.getElem?_drop, List.getElem?_drop, List.getElem?_take_of_lt (by omega)]
    · rw [List.getElem?_eq_none (by simp; omega), List.getElem?_eq_none (by simp [Array.length_toList]; omega)]
theorem oe_appendZ {t tn e : TypeId} {x y : Operand} {kn kq : IntKind} {g l c base bytes i k m : Nat} {us : List Value} {z : Value} {j : Int} {K : Value → World → Prop} (ht : P.underlying t = some (.slice e)) (htn : P.underlying tn = some (.int kn))
    (hinf : (P.info? e).map (fun i => (i.zero, i.size, i.bytes)) = some (some z, 13, bytes)) (hz : z.cells.size = 13) (hb0 : 0 < bytes) (hx : EV n fr x (.slice (some ⟨g, 0, none⟩) i c)) (hy : EV n fr y (.int kq j)) (hj : j = (k : Nat))
    (hO : OwC w base e (some ⟨g, 0, none⟩) l c us) (hi : i ≤ l) (h0 : 0 < k) (hm : i + k = m) (hgr : c < m) (hb : m * bytes ≤ 140737488355328)
    (h : ∀ b G zs w', w.heap.size = b → m ≤ G → zs.length = k * 13 → OwC w' b e (some ⟨b, 0, none⟩) m G (us.take (i * 13) ++ zs) → Ext w w' → K (.slice (some ⟨b, 0, none⟩) m G) w') : OE P n (.call { callee := .builtin .append, args := #[x, y], argTypes := #[t, tn] }) ty fr w K := by
  subst hj; subst hm
  cases hin : P.info? e with
  | none => simp [hin] at hinf
  | some inf =>
    simp only [hin, Option.map_some, Option.some.injEq, Prod.mk.injEq] at hinf
    obtain ⟨h1, h2, h3⟩ := hinf
    obtain ⟨hbg, hlc, hcm, cur, hg, hcs, h4⟩ := hO.opn
    have hus := hO.len
    have hn : (i + k) ≤ 140737488355328 := Nat.le_trans (Nat.le_mul_of_pos_right _ hb0) hb
    have hnk : k * bytes ≤ 281474976710656 := Nat.le_trans (Nat.mul_le_mul_right _ (show k ≤ i + k by omega)) (by omega)
    have hold : (Builtin.firstCells inf.size i (.slice (some ⟨g, 0, none⟩) i c)).run P w.drew = .ok (us.take (i * 13)).toArray w.drew := by
      rw [h2]
      refine run_firstCells_some w.drew 13 i ⟨g, 0, none⟩ i c (us.take (i * 13)) (by rw [List.length_take]; have := Nat.mul_le_mul_right 13 hi; omega) (fun j v hj => ?_)
      obtain ⟨g3, o3, hA3, hc3⟩ := hO.cel0.take (i * 13)
      injection hA3 with hA3
      rw [hA3, addr_addn]
      exact hc3 j v hj
    have hr := run_append_grow_zeros (P := P) w t tn ty e inf z kq kn ht htn hin h1 (some ⟨g, 0, none⟩) i c _ hold k h0 (by omega) hgr (by omega) (by rw [h3]; exact hnk) (by rw [h3]; exact growslice_fits hgr hb)
    have hge := grownCap_ge w (i + k) c e
    have hcm2 : grownCap w (i + k) c e ≤ maxLen := grownCap_le_maxLen w (i + k) c e (by simp only [maxLen]; omega)
    have hn2 := new_alloc w.drew (.cells ((us.take (i * 13)).toArray ++ Builtin.zeroCells z.cells k ++ Builtin.zeroCells z.cells (grownCap w (i + k) c e - (i + k))) e)
    have htl : (us.take (i * 13)).length = i * 13 := by rw [List.length_take]; have := Nat.mul_le_mul_right 13 hi; omega
    refine OE.of_run (fun _ _ _ _ => ?_) (h _ (grownCap w (i + k) c e) (Builtin.zeroCells z.cells k).toList _ rfl hge (by simp [size_zeroCells, hz]) (OwC.mk' (Nat.le_refl _) hn2.blk hge hcm2 ?_ ?_) ⟨rfl, rfl, rfl, by simp, fun q hq => heap_alloc_old w.drew _ hq⟩)
    · unfold EV at hx hy
      simp only [execOp, resolve, invoke, builtin, hx, hy, hr, List.map_toArray, List.map_cons, List.map_nil, Sem.run_bind, Sem.run_pure, Result.andThen_ok]
    · simp only [Array.size_append, List.size_toArray, size_zeroCells, hz, htl]
      rw [← Nat.add_mul, ← Nat.add_mul]
      congr 1
      omega
    · simp only [Array.toList_append]
      rw [List.take_left']
      simp [size_zeroCells, hz, htl, Nat.add_mul]
end
end Go.Proofs.YtmbpomcbdopgnaaGreat.Fw
set_option linter.unusedVariables false
set_option linter.unusedSimpArgs false
namespace Go.Proofs.YtmbpomcbdopgnaaGreat.Fw
open Go Go.RowKit Go.Lib Go.Sort
section
variable {w w' : World} {lo hi T T' : Nat} {A : Option Addr} {l c : Nat} {W : Nat → Nat → Int} {E : Nat → List Int} {SL : SlF}
theorem NG.nr (h : NG w lo hi T T' A l c W E SL) : NR w lo hi A l W E SL := by
  have hn := h.no.nr
  refine ⟨h.lh.2, ?_, fun i hi' => ⟨(hn.inner i hi').1, (hn.inner i hi').2.1, fun g o hA hL => ⟨((hn.inner i hi').2.2 g o hA hL).1, ((h.inner i hi').2 g o hA).1⟩⟩⟩
  rcases hn.row with h0 | ⟨g, off, T, cs, fz, hA, hg, hr, hc⟩
  · exact .inl h0
  · exact .inr ⟨g, off, T, cs, fz, hA, hg, ⟨hr.1, h.rlt g off hA⟩, hc⟩
theorem NG.at (h : NG w lo hi T T' A l c W E SL) (hp : 0 < l) : ∃ g, A = some ⟨g, 0, none⟩ := by
  obtain ⟨vs, ho, _⟩ := h.own
  rcases ho.2 with ⟨hv, hn⟩ | ⟨g, cap, cur, hv, _⟩
  · omega
  · injection hv with hA _ _; exact ⟨g, hA⟩
theorem NG.lo_le {lo2 : Nat} (h : NG w lo hi T T' A l c W E SL) (hl : lo2 ≤ lo) : NG w lo2 hi T T' A l c W E SL := by
  obtain ⟨vs, hC, hR⟩ := h.cel
  exact ⟨⟨by have := h.lh; omega, h.lh.2⟩, h.rlt, ⟨vs, (hR.mono hl).1, hC.2⟩, fun i hi' => ⟨(h.inner i hi').1.mono hl, (h.inner i hi').2⟩⟩
theorem NG.congr {W' : Nat → Nat → Int} {E' : Nat → List Int} (h : NG w lo hi T T' A l c W E SL) (hW : ∀ i, i < l → ∀ j, j < 12 → W' i j = W i j) (hE : ∀ i, i < l → E' i = E i) : NG w lo hi T T' A l c W' E' SL := by
  obtain ⟨vs, ho, hc⟩ := h.own
  refine ⟨h.lh, h.rlt, ⟨vs, ho, fun i hi' => ?_⟩, fun i hi' => by rw [hE i hi']; exact h.inner i hi'⟩
  obtain ⟨h1, h2⟩ := hc i hi'
  exact ⟨fun j hj => by rw [h1 j hj, hW i hi' j hj], by rw [hE i hi']; exact h2⟩
theorem Ow.holds {base T c b : Nat} {L : List Int} (h : Ow w base T .i64 (some ⟨b, 0, none⟩) c L) : Holds (Value.int .i64) w b 0 L.toArray := by
  intro j hj
  have hjl : j < L.length := by simpa using hj
  rcases h.1.2 with ⟨hv, hn⟩ | ⟨g, cap, cur, hv, hb, hg, h1, h2, h3, h4⟩
  · injection hv with h1 _ _; cases h1
  · injection hv with hA _ _
    injection hA with hA
    injection hA with hA _ _
    subst hA
    refine ⟨?_, by simp [World.frozen?, hg]⟩
    have h5 : (cur.toList.take (L.length * 1))[j]? = (L.map (Value.int .i64))[j]? := by rw [h4]
    rw [List.getElem?_take_of_lt (by omega), List.getElem?_map, List.getElem?_eq_getElem hjl] at h5
    rw [Nat.zero_add, cell_of_row w b j cur T _ hg]
    simp only [Option.map_some, Array.getElem?_toList] at h5
    rw [h5]
    simp [hjl]
theorem Ow.sorted {base T c b n : Nat} {L L' : List Int} {os : Array Obj} (h : Ow w base T .i64 (some ⟨b, 0, none⟩) c L) (hL : L'.length = L.length) (hw : w' = grow (putRow (Value.int .i64) (Go.Sort.ahead w n) b 0 L'.toArray) os) :
    Ow w' base T .i64 (some ⟨b, 0, none⟩) c L' ∧ base ≤ b ∧ w'.os = w.os ∧ w'.tape = w.tape ∧ w'.output = w.output ∧ w.heap.size ≤ w'.heap.size ∧ ∀ k, k < w.heap.size → k ≠ b → w'.heap[k]? = w.heap[k]? := by
  have hh := h.holds
  have hb := h.lt b 0 rfl
  rcases h.1.2 with ⟨hv, hn⟩ | ⟨g, cap, cur, hv, hbb, hg, h1, h2, h3, h4⟩
  · injection hv with h1 _ _; cases h1
  · injection hv with hA _ hc
    injection hA with hA
    injection hA with hA _ _
    subst hA; subst hc
    have hsz : w.heap.size ≤ w'.heap.size := by subst hw; simp
    have hblk : ∀ k, k < w.heap.size → k ≠ b → w'.heap[k]? = w.heap[k]? := fun k hk hne => by
      subst hw
      rw [heap_grow_old _ _ (by simpa using hk)]
      simp [putRow, mapBlock, Array.getElem?_modify, Ne.symm hne]
    have hbb2 : w'.heap[b]? = some (.cells (putCells (Value.int .i64) 0 L'.toArray cur) T) := by
      subst hw
      rw [heap_grow_old _ _ (by simpa using hb)]
      simp [putRow, mapBlock, Array.getElem?_modify, hg, onCells]
    refine ⟨⟨⟨by simp, .inr ⟨b, c, _, rfl, hbb, hbb2, by rw [hL]; exact h1, h2, by simpa [putCells] using h3, ?_⟩⟩, Nat.le_trans h.2 hsz⟩, hbb, by subst hw; rfl, by subst hw; rfl, by subst hw; rfl, hsz, hblk⟩
    apply List.ext_getElem?
    intro j
    by_cases hj : j < L'.length
    · rw [List.getElem?_take_of_lt (by omega), List.getElem?_map, List.getElem?_eq_getElem hj]
      have hjc : j < cur.size := by omega
      simp [putCells, hj, hjc]
    · rw [List.getElem?_eq_none (by simp; omega), List.getElem?_eq_none (by simp; omega)]
theorem NG.sorted {b i n c' : Nat} {L L' : List Int} {os : Array Obj} (h : NG w lo hi T T' A l c W E SL) (hT : T ≠ T') (hi' : i < l) (hS : SL i = (some ⟨b, 0, none⟩, c')) (hE : E i = L) (hL : L'.length = L.length) (hw : w' = grow (putRow (Value.int .i64) (Go.Sort.ahead w n) b 0 L'.toArray) os) :
    NG w' lo w'.heap.size T T' A l c W (updA E i L') SL ∧ Below lo w w' := by
  have hO := (h.inner i hi').1
  rw [hS, hE] at hO
  obtain ⟨h1, h2, h3, h4, h5, h6, h7⟩ := hO.sorted hL hw
  have hlh := h.lh
  obtain ⟨vs, hC, hR⟩ := h.cel
  have hb1 : (SL i).1 = some ⟨b, 0, none⟩ := by rw [hS]
  refine ⟨⟨⟨by omega, Nat.le_refl _⟩, fun g o hA => by have := h.rlt g o hA; omega, ?_, fun q hq => ?_⟩, ⟨h3, h4, h5, h6, fun k hk => h7 k (by omega) (by omega)⟩⟩
  · have hR' := hR.keep h6 (w' := w') fun g ob _ _ hA hg => (h7 g (lt_of_blk hg) fun he => (h.inner i hi').1.ne_row2 hT hR hA hb1 he.symm).trans hg
    refine ⟨vs, hR'.1, fun q hq => ?_⟩
    obtain ⟨h8, h9⟩ := hC.2 q hq
    refine ⟨h8, ?_⟩
    by_cases hqi : q = i
    · subst hqi; rw [updA_same, hL, ← hE]; exact h9
    · rw [updA_ne _ _ hqi]; exact h9
  · obtain ⟨h8, h9⟩ := h.inner q hq
    refine ⟨?_, fun b2 o2 hA2 => ⟨by have := (h9 b2 o2 hA2).1; omega, (h9 b2 o2 hA2).2⟩⟩
    by_cases hqi : q = i
    · subst hqi; rw [updA_same, hS]; exact h1
    · rw [updA_ne _ _ hqi]
      exact h8.keep h6 fun g o ob hA hg => (h7 g (lt_of_blk hg) fun he => (h9 g o hA).2 i hi' (fun e => hqi e.symm) b 0 hb1 he.symm).trans hg
end
section
variable {P : Program} {n : Nat} {fr : Fr} {w : World} {ty : TypeId}
theorem dv_overlaps {g : Nat} {fn : Func} {args : Array Operand} {tys : Array TypeId} {tS tR e : TypeId} {b la ca i c lb cb T T2 base l : Nat} {b2 : Nat} {us vs : List Value} (hf : P.funcs[g]? = some fn) (hn : (fn.name == "runtime.NumGoroutine") = false) (hb : fn.body.isNone = true)
    (h1 : (Extern.findNext fn).isNone = true) (h2 : Extern.find fn = some (Extern.SlicesOverlaps.overlaps #[tS, tS] #[tR])) (ht : P.underlying tS = some (.slice e)) (hs : sizeB P e = some 13)
    (ha : args.map (actOf n fr).eval = [.slice (some ⟨b, 0, none⟩) la ca, .slice (slA (some ⟨b2, 0, none⟩) i c) lb cb].toArray) (hH : w.heap[b]? = some (.cells vs.toArray T)) (hO : OwC w base T2 (some ⟨b2, 0, none⟩) l c us) (hl : i < c) (hne : b ≠ b2) :
    DV P n (.call { callee := .value (.func g), args := args, argTypes := tys }) ty fr w (.bool false) := fun _ _ _ _ => by
  obtain ⟨_, h3, _, cur, hg, hcs, _⟩ := hO.opn
  rw [slA_ne (by omega)] at ha
  have hev : (actOf n fr).eval (.func g) = .func (.func g) #[] #[] := rfl
  have hnx : Extern.findNext fn = none := by simpa using h1
  have hb' : fn.body = none := by simpa using hb
  have hn' : fn.name ≠ "runtime.NumGoroutine" := by simpa using hn
  have hr := run_overlaps_apart (P := P) w tS tR e ht 13 (fun w => run_sizeOf hs) ⟨b, 0, none⟩ ⟨b2, i * 13, none⟩ la ca lb cb hne T T2 vs.length cur.size (by simp [World.shape?, hH]) (by simp [World.shape?, hg]) (by omega) (by simp [World.frozen?, hH]) (by simp [World.frozen?, hH])
  simp [execOp, resolve, hev, Deferred.ofValue, invoke, callFunc, hf, hn', hb', hnx, h2, ha, hr]
end
theorem ins_room {vs jk ev : List Value} {i n : Nat} (hv : vs.length = n * 13) (hj : jk.length = 13) (he : ev.length = 13) (hi : i < n) :
    ((vs ++ jk).take ((i + 1) * 13) ++ vs.drop (i * 13) ++ (vs ++ jk).drop ((i + 1) * 13 + (vs.drop (i * 13)).length)).take (i * 13) ++ ev ++ ((vs ++ jk).take ((i + 1) * 13) ++ vs.drop (i * 13) ++ (vs ++ jk).drop ((i + 1) * 13 + (vs.drop (i * 13)).length)).drop (i * 13 + ev.length) = vs.take (i * 13) ++ ev ++ vs.drop (i * 13) := by
  have hdl : (vs.drop (i * 13)).length = n * 13 - i * 13 := by rw [List.length_drop, hv]
  have e1 : (vs ++ jk).drop ((i + 1) * 13 + (vs.drop (i * 13)).length) = [] := List.drop_of_length_le (by rw [List.length_append, hdl]; omega)
  have e2 : ((vs ++ jk).take ((i + 1) * 13)).length = (i + 1) * 13 := by rw [List.length_take, List.length_append]; omega
  rw [e1, List.append_nil, he, show i * 13 + 13 = (i + 1) * 13 by omega, List.drop_left' e2, List.take_append_of_le_length (by omega), List.take_take, Nat.min_eq_left (by omega), List.take_append_of_le_length (by omega)]
theorem ins_new {vs zs ev : List Value} {i n : Nat} (hv : vs.length = n * 13) (hz : zs.length = (n + 1 - i) * 13) (he : ev.length = 13) (hi : i < n) :
    ((vs.take (i * 13) ++ zs).take (i * 13) ++ ev ++ (vs.take (i * 13) ++ zs).drop (i * 13 + ev.length)).take ((i + 1) * 13) ++ vs.drop (i * 13) ++ ((vs.take (i * 13) ++ zs).take (i * 13) ++ ev ++ (vs.take (i * 13) ++ zs).drop (i * 13 + ev.length)).drop ((i + 1) * 13 + (vs.drop (i * 13)).length) = vs.take (i * 13) ++ ev ++ vs.drop (i * 13) := by
  have ht : (vs.take (i * 13)).length = i * 13 := by rw [List.length_take]; omega
  rw [List.take_left' ht]
  have h2 : (vs.take (i * 13) ++ ev).length = (i + 1) * 13 := by rw [List.length_append, ht, he]; omega
  have h3 : (vs.take (i * 13) ++ ev ++ (vs.take (i * 13) ++ zs).drop (i * 13 + ev.length)).length = (n + 1) * 13 := by rw [List.length_append, h2, List.length_drop, List.length_append, ht, hz, he]; omega
  have h4 : (vs.take (i * 13) ++ ev ++ (vs.take (i * 13) ++ zs).drop (i * 13 + ev.length)).drop ((i + 1) * 13 + (vs.drop (i * 13)).length) = [] := List.drop_of_length_le (by rw [h3, List.length_drop, hv]; omega)
  rw [h4, List.append_nil, List.take_left' h2]
theorem ins_end {vs ev : List Value} {i n : Nat} (hv : vs.length = n * 13) (hi : i = n) : vs ++ ev = vs.take (i * 13) ++ ev ++ vs.drop (i * 13) := by
  rw [List.take_of_length_le (by omega), List.drop_of_length_le (by omega), List.append_nil]
theorem OwC.eqv {w : World} {base T c l : Nat} {A : Option Addr} {vs vs' : List Value} (h : OwC w base T A l c vs) (e : vs = vs') : OwC w base T A l c vs' := e ▸ h
theorem OwC.celO {w : World} {base T c l l' g : Nat} {vs jk : List Value} (h : OwC w base T (some ⟨g, 0, none⟩) l' c (vs ++ jk)) (hv : vs.length = l * 13) {i : Nat} (hi : i ≤ l) (hl : l ≤ l') : CelA w (slA (some ⟨g, 0, none⟩) i c) (vs.drop (i * 13)) := by
  obtain ⟨g2, o2, hA, hc⟩ := h.cel (i := i) (by omega)
  refine ⟨g2, o2, hA, fun j v hj => hc j v ?_⟩
  rw [List.drop_append_of_le_length (by omega), List.getElem?_append_left (List.getElem?_eq_some_iff.1 hj).1]
  exact hj
theorem OwC.stX {w w' : World} {base T c l b : Nat} {A : Option Addr} {vs : List Value} (h : OwC w base T A l c vs) (e : St b w w') (hx : ∀ g o, A = some ⟨g, o, none⟩ → g ≠ b) : OwC w' base T A l c vs :=
  h.keep (Nat.le_of_eq e.size.symm) fun g ob _ _ hA hg => e.blk hg (hx g 0 hA)
end Go.Proofs.YtmbpomcbdopgnaaGreat.Fw
namespace Go.Proofs.YtmbpomcbdopgnaaGreat.Fw
open Go
abbrev qu (z : Int) : Value := .int .u64 z
abbrev qi (z : Int) : Value := .int .i64 z
abbrev qd (p : Prop) [Decidable p] : Value := .bool (decide p)
abbrev qA (x y u : Int) : Array Value := #[.int .u64 (wv3 x), .int .u64 (wv2 x), .int .u64 (wv1 x), .int .u64 (wv0 x), .int .u64 (wv3 y), .int .u64 (wv2 y), .int .u64 (wv1 y), .int .u64 (wv0 y), .int .u64 (wv3 u), .int .u64 (wv2 u), .int .u64 (wv1 u), .int .u64 (wv0 u)]
abbrev qL (x y u : Int) : List Value := [.int .u64 (wv3 x), .int .u64 (wv2 x), .int .u64 (wv1 x), .int .u64 (wv0 x), .int .u64 (wv3 y), .int .u64 (wv2 y), .int .u64 (wv1 y), .int .u64 (wv0 y), .int .u64 (wv3 u), .int .u64 (wv2 u), .int .u64 (wv1 u), .int .u64 (wv0 u)]
abbrev qB (x y u : Int) (v : Value) : Array Value := #[.int .u64 (wv3 x), .int .u64 (wv2 x), .int .u64 (wv1 x), .int .u64 (wv0 x), .int .u64 (wv3 y), .int .u64 (wv2 y), .int .u64 (wv1 y), .int .u64 (wv0 y), .int .u64 (wv3 u), .int .u64 (wv2 u), .int .u64 (wv1 u), .int .u64 (wv0 u), v]
abbrev qM (x y u : Int) (v : Value) : List Value := [.int .u64 (wv3 x), .int .u64 (wv2 x), .int .u64 (wv1 x), .int .u64 (wv0 x), .int .u64 (wv3 y), .int .u64 (wv2 y), .int .u64 (wv1 y), .int .u64 (wv0 y), .int .u64 (wv3 u), .int .u64 (wv2 u), .int .u64 (wv1 u), .int .u64 (wv0 u), v]
theorem qT {p : Prop} [Decidable p] (h : p) : Value.bool (decide p) = .bool true := congrArg Value.bool (decide_eq_true h)
theorem qF {p : Prop} [Decidable p] (h : ¬ p) : Value.bool (decide p) = .bool false := congrArg Value.bool (decide_eq_false h)
section
variable {P : Program} {f n : Nat} {R : Ending → World → Prop} {k : List Item} {fr : Fr} {w : World} {ops : Array Oper}
theorem qN {c : Code} {id : Nat} {l : List Oper} (h : LW P f n R (.code c :: k) l.toArray l fr w) : LW P f n R (.code (.seq (.region id l.toArray false) c) :: k) ops [] fr w := lw_nil (rk_seq (rk_reg h))
end
end Go.Proofs.YtmbpomcbdopgnaaGreat.Fw
