/- Walks and plain mathematics, packed by a program of this session: declarations that the rows reach. -/
import Derived.Deep.Slices
import Derived.Lib.IndexMore
import Derived.Test.YtfmkadgjoechnaaPea
set_option linter.unusedVariables false
set_option linter.unusedSimpArgs false
namespace Go.Proofs.Ytfmkadgjoechnaa.Fw
open Go Go.RowKit
def Rd (w : World) (A : Option Addr) (vs : List Value) : Prop :=
  vs = [] ∨ ∃ (g off T : Nat) (cs : Array Value) (fz : Nat × Nat), A = some ⟨g, off, none⟩ ∧ w.heap[g]? = some (.cells cs T fz) ∧ ∀ i x, vs[i]? = some x → cs[off + i]? = some x
theorem Rd.ext {w w' : World} {A : Option Addr} {vs : List Value} (h : Rd w A vs) (e : Ext w w') : Rd w' A vs := by
  rcases h with h | ⟨g, off, T, cs, fz, hA, hg, hc⟩
  · exact .inl h
  · exact .inr ⟨g, off, T, cs, fz, hA, e.blk hg, hc⟩
theorem Rd.at {w : World} {A : Option Addr} {vs : List Value} (h : Rd w A vs) (hp : 0 < vs.length) : ∃ g off, A = some ⟨g, off, none⟩ := by
  rcases h with h | ⟨g, off, T, cs, fz, hA, hg, hc⟩
  · rw [h] at hp; simp at hp
  · exact ⟨g, off, hA⟩
theorem Rd.cell {w : World} {g off i : Nat} {vs : List Value} {v : Value} (h : Rd w (some ⟨g, off, none⟩) vs) (hi : vs[i]? = some v) : w.cell? ⟨g, off + i, none⟩ = some v := by
  rcases h with h | ⟨g', off', T, cs, fz, hA, hg, hc⟩
  · rw [h] at hi; cases hi
  · obtain ⟨rfl, rfl⟩ : g = g' ∧ off = off' := by simpa using hA
    rw [cell_of_row w g (off + i) cs T fz hg]
    exact hc i v hi
def RdI (w : World) (k : IntKind) (A : Option Addr) (L : List Int) : Prop := Rd w A (L.map (Value.int k))
theorem RdI.ext {w w' : World} {k : IntKind} {A : Option Addr} {L : List Int} (h : RdI w k A L) (e : Ext w w') : RdI w' k A L := Rd.ext h e
theorem RdI.at {w : World} {k : IntKind} {A : Option Addr} {L : List Int} (h : RdI w k A L) (hp : 0 < L.length) : ∃ g off, A = some ⟨g, off, none⟩ := Rd.at h (by simpa using hp)
theorem RdI.cell {w : World} {k : IntKind} {g off i : Nat} {L : List Int} (h : RdI w k (some ⟨g, off, none⟩) L) (hi : i < L.length) : w.cell? ⟨g, off + i, none⟩ = some (.int k (L.getD i 0)) :=
  Rd.cell h (by simp [List.getElem?_map, hi, List.getD_eq_getElem?_getD])
theorem addr_addn {g off m : Nat} : (⟨g, off, none⟩ : Addr).add m = ⟨g, off + m, none⟩ := by unfold Addr.add; split <;> simp_all
section
variable {P : Program} {n : Nat} {fr : Fr} {w : World} {ty : TypeId}
theorem dv_indexOM {t e : TypeId} {x y : Operand} {g l c i m : Nat} {k : IntKind} {j : Int} (ht : P.underlying t = some (.slice e)) (hs : sizeB P e = some m)
    (hx : EV n fr x (.slice (some ⟨g, 0, none⟩) l c)) (hy : EV n fr y (.int k j)) (hj : j = (i : Nat)) (hl : i < l) : DV P n (.indexAddr t x y) ty fr w (.pointer (some ⟨g, i * m, none⟩)) :=
  dv_indexAddr ht hs hx hy (by omega) (by omega) (by subst hj; rw [addr_addn, Nat.zero_add]; rfl)
theorem loadVar_at {t : TypeId} {g o m : Nat} {l : List Value} (ht : aggB P t = some true) (hs : sizeB P t = some m) (hl : l.length = m)
    (hc : ∀ j v, l[j]? = some v → w.cell? ⟨g, o + j, none⟩ = some v) : (loadVar t ⟨g, o, none⟩).run P w = .ok (.agg l.toArray) w := by
  have hld : (loadCells ⟨g, o, none⟩ l.length).run P w = .ok l.toArray w := by
    refine run_loadCells_list _ _ l fun j v hj => ?_
    rw [addr_addn]
    exact hc j v hj
  rw [hl] at hld
  simp [loadVar, run_isAgg ht, run_sizeOf hs, hld]
theorem dv_loadsR {t : TypeId} {x : Operand} {g o m : Nat} {l : List Value} (ht : aggB P t = some true) (hs : sizeB P t = some m) (hx : EV n fr x (.pointer (some ⟨g, o, none⟩))) (hl : l.length = m)
    (hc : ∀ j v, l[j]? = some v → w.cell? ⟨g, o + j, none⟩ = some v) : DV P n (.load t x) ty fr w (.agg l.toArray) := fun _ _ _ _ => by
  unfold EV at hx
  have := loadVar_at (w := w) ht hs hl hc
  simp [execOp, hx, Instr.loadAt, Instr.sureAddr, this]
def getM (k : IntKind) (L : List Int) (i m : Nat) : List Value := (List.range m).map fun j => Value.int k (L.getD (i + j) 0)
theorem getM_get {k : IntKind} {L : List Int} {i m j : Nat} {v : Value} (h : (getM k L i m)[j]? = some v) : j < m ∧ v = .int k (L.getD (i + j) 0) := by
  unfold getM at h
  have hj := (List.getElem?_eq_some_iff.1 h).1
  simp only [List.length_map, List.length_range] at hj
  rw [List.getElem?_map, List.getElem?_range hj] at h
  exact ⟨hj, by simpa using h.symm⟩
theorem dv_loadsO {t : TypeId} {x : Operand} {b T i m : Nat} {k : IntKind} {L : List Int} {fz : Nat × Nat} {l : List Value} (ht : aggB P t = some true) (hs : sizeB P t = some m) (hx : EV n fr x (.pointer (some ⟨b, i, none⟩)))
    (hb : w.heap[b]? = some (.cells (L.map (Value.int k)).toArray T fz)) (hi : i + m ≤ L.length) (hl : getM k L i m = l) : DV P n (.load t x) ty fr w (.agg l.toArray) := by
  subst hl
  refine dv_loadsR ht hs hx (by simp [getM]) fun j v hj => ?_
  obtain ⟨hjm, rfl⟩ := getM_get hj
  have := (Wd.ownW (w := w) hb).cell (i := i + j) (by omega)
  rwa [Nat.zero_add] at this
end
def flatFs (P : Program) (g : TypeId → Option (List TypeId)) : Nat → List Field → Option (List TypeId)
  | _, [] => some []
  | o, f :: fs => match g f.type with
    | some l => if f.offset = o ∧ P.cellsOf f.type = l.length then (flatFs P g (o + l.length) fs).map (l ++ ·) else none
    | none => none
def flatC (P : Program) : Nat → TypeId → Option (List TypeId)
  | 0, _ => none
  | d + 1, t => match P.underlying t with
    | some (.struct fs) => (flatFs P (flatC P d) 0 fs.toList).bind fun l => if P.cellsOf t = l.length then some l else none
    | some (.int _) => if P.cellsOf t = 1 then some [t] else none
    | some (.slice _) => if P.cellsOf t = 1 then some [t] else none
    | _ => none
def isIntK (P : Program) (k : IntKind) (u : TypeId) : Bool := match P.underlying u with
  | some (.int k') => decide (k' = k)
  | _ => false
theorem isIntK_spec {P : Program} {k : IntKind} {u : TypeId} (h : isIntK P k u = true) : P.underlying u = some (.int k) := by
  unfold isIntK at h
  split at h
  · rename_i k' hk; rw [hk]; simp at h; rw [h]
  · cases h
section
variable {H : Type} {enc : TypeId × Value → H} {P : Program} {w : World} {base : Nat} {spare : Nat → Bool} {held : Bool}
theorem flatFs_get {g : TypeId → Option (List TypeId)} {cs : List Value} {n : Nat} (hg : ∀ (t : TypeId) (us : List TypeId) (m : Nat) (fs' : List Nat) (cs' : List Value) (x : DataW H × List MemPlace), g t = some us → DataW.trod enc P w base spare held m t cs' = some x → cs'.length = us.length ∧ ∀ (j : Nat) (u : TypeId), us[j]? = some u → ∃ v m' y, cs'[j]? = some v ∧ DataW.trod enc P w base spare held m' u [v] = some y) :
    ∀ (fs : List Field) (o : Nat) (l : List TypeId), flatFs P g o fs = some l → (∀ f ∈ fs, ∃ y, DataW.trod enc P w base spare held n f.type ((cs.drop f.offset).take (P.cellsOf f.type)) = some y) →
      ∀ j u, l[j]? = some u → ∃ v m y, cs[o + j]? = some v ∧ DataW.trod enc P w base spare held m u [v] = some y := by
  intro fs
  induction fs with
  | nil => intro o l hl _ j u hj; simp [flatFs] at hl; subst hl; simp at hj
  | cons f fs ih =>
    intro o l hl hf j u hj
    simp only [flatFs] at hl
    cases hgf : g f.type with
    | none => rw [hgf] at hl; cases hl
    | some us =>
      rw [hgf] at hl
      simp only at hl
      by_cases hc : f.offset = o ∧ P.cellsOf f.type = us.length
      · rw [if_pos hc] at hl
        obtain ⟨l', hl', rfl⟩ := Option.map_eq_some_iff.1 hl
        obtain ⟨y, hy⟩ := hf f (List.mem_cons_self ..)
        obtain ⟨h1, h2⟩ := hg f.type us n [] _ y hgf hy
        by_cases hj' : j < us.length
        · rw [List.getElem?_append_left hj'] at hj
          obtain ⟨v, m, y', h3, h4⟩ := h2 j u hj
          refine ⟨v, m, y', ?_, h4⟩
          rw [List.getElem?_take_of_lt (by omega), List.getElem?_drop, hc.1] at h3
          exact h3
        · rw [List.getElem?_append_right (by omega)] at hj
          obtain ⟨v, m, y', h3, h4⟩ := ih (o + us.length) l' hl' (fun f' hf' => hf f' (List.mem_cons_of_mem _ hf')) (j - us.length) u hj
          refine ⟨v, m, y', ?_, h4⟩
          rw [← h3]; congr 1; omega
      · rw [if_neg hc] at hl; cases hl
theorem trod_flat : ∀ (d : Nat) (t : TypeId) (us : List TypeId) (m : Nat) (fs' : List Nat) (cs : List Value) (x : DataW H × List MemPlace), flatC P d t = some us → DataW.trod enc P w base spare held m t cs = some x →
    cs.length = us.length ∧ ∀ (j : Nat) (u : TypeId), us[j]? = some u → ∃ v m' y, cs[j]? = some v ∧ DataW.trod enc P w base spare held m' u [v] = some y := by
  intro d
  induction d with
  | zero => intro t us m _ cs x h; cases h
  | succ d ih =>
    intro t us m _ cs x h hx
    simp only [flatC] at h
    cases hu : P.underlying t with
    | none => rw [hu] at h; cases h
    | some td =>
      rw [hu] at h
      have one : ∀ (hh : (if P.cellsOf t = 1 then some [t] else none) = some us), (∃ v, cs = [v]) → cs.length = us.length ∧ ∀ (j : Nat) (u : TypeId), us[j]? = some u → ∃ v m' y, cs[j]? = some v ∧ DataW.trod enc P w base spare held m' u [v] = some y := by
        intro hh ⟨v, hv⟩
        by_cases hc : P.cellsOf t = 1
        · rw [if_pos hc] at hh
          obtain rfl : [t] = us := by simpa using hh
          subst hv
          refine ⟨rfl, fun j u hj => ?_⟩
          have hj0 : j = 0 := by
            have := (List.getElem?_eq_some_iff.1 hj).1
            simp at this; exact this
          subst hj0
          obtain rfl : t = u := by simpa using hj
          exact ⟨v, m, x, rfl, hx⟩
        · rw [if_neg hc] at hh; cases hh
      cases td with
      | struct fs =>
        simp only at h
        obtain ⟨l, hl, hif⟩ := Option.bind_eq_some_iff.1 h
        by_cases hc : P.cellsOf t = l.length
        · rw [if_pos hc] at hif
          obtain rfl : l = us := by simpa using hif
          obtain ⟨xs, n, _, _, hlen, hxl, hf⟩ := DataW.trod_struct hu hx
          refine ⟨by rw [hlen, hc], fun j u hj => ?_⟩
          have := flatFs_get (enc := enc) (w := w) (base := base) (spare := spare) (held := held) (cs := cs) (n := n) (g := flatC P d) (fun t us m fs' cs' x h1 h2 => ih t us m [] cs' x h1 h2) fs.toList 0 l hl (fun f hfm => by
            obtain ⟨i, hi, he⟩ := List.getElem_of_mem hfm
            have hi' : i < fs.size := by simpa using hi
            have h5 := hf i f (by rw [Array.getElem?_eq_getElem hi']; exact congrArg some (by simpa using he))
            exact ⟨xs[i]'(by omega), by rw [h5]; exact List.getElem?_eq_getElem _⟩) j u hj
          rwa [Nat.zero_add] at this
        · rw [if_neg hc] at hif; cases hif
      | int k =>
        refine one h ?_
        obtain ⟨x', h1, _⟩ := DataW.trod_int hu hx
        exact ⟨_, h1⟩
      | slice e =>
        refine one h ?_
        rcases DataW.trod_slice hu hx with ⟨h1, _⟩ | ⟨a, len, cap, elems, rest, n, _, h1, _⟩
        · exact ⟨_, h1⟩
        · exact ⟨_, h1⟩
      | _ => cases h
theorem open_ints {t e : TypeId} {fuel m d : Nat} {k : IntKind} {us : List TypeId} {v : Value} {x : DataW H × List MemPlace} (ht : P.underlying t = some (.slice e)) (hf : flatC P d e = some us) (hm : us.length = m) (hm0 : 0 < m) (hC : P.cellsOf e = m)
    (hk : us.all (fun u => isIntK P k u) = true) (h : DataW.trod enc P w base spare held fuel t [v] = some x) :
    ∃ (A : Option Addr) (l c : Nat) (L : List Int), v = .slice A l c ∧ l ≤ c ∧ c ≤ maxLen ∧ L.length = l * m ∧ RdI w k A L ∧ ∀ y ∈ L, k.has y := by
  rcases Go.Deep.open_slice ht h with ⟨h1, h2⟩ | ⟨a, len, cap, mm, nn, D, Pl, h1, hb, hl, hcap, hmm, hx, hi⟩
  · obtain rfl : v = .slice none 0 0 := by simpa using h1
    exact ⟨none, 0, 0, [], rfl, Nat.le_refl _, Nat.zero_le _, by simp, .inl rfl, fun y hy => by cases hy⟩
  · obtain rfl : v = .slice (some a) len cap := by simpa using h1
    have hlm : len ≤ mm := by rw [hmm]; split <;> omega
    have cell : ∀ i j, i < len → j < m → ∃ z : Int, w.cell? (a.add (i * m + j)) = some (.int k z) ∧ k.has z := by
      intro i j hil hjm
      obtain ⟨cs', hcs, htr⟩ := hi i (by omega)
      rw [hC] at hcs
      obtain ⟨h3, h4⟩ := trod_flat d e us nn [] cs' _ hf htr
      obtain ⟨_, hcl, hat⟩ := World.cells?_some hcs
      obtain ⟨u, hu⟩ : ∃ u, us[j]? = some u := ⟨us[j]'(by omega), List.getElem?_eq_getElem _⟩
      obtain ⟨v', m', y, h5, h6⟩ := h4 j u hu
      have hku : P.underlying u = some (.int k) := by
        exact isIntK_spec (List.all_eq_true.1 hk u (List.mem_of_getElem? hu))
      obtain ⟨z, h7, h8, h9⟩ := DataW.trod_int hku h6
      refine ⟨z, ?_, ?_⟩
      · have h10 := hat j (by omega)
        rw [h5] at h10
        obtain rfl : v' = .int k z := by simpa using h7
        rw [← Go.Deep.add_add]
        exact h10
      · simp only [Lit.wf, Bool.and_eq_true, decide_eq_true_eq] at h9
        exact h9
    refine ⟨some a, len, cap, (List.range (len * m)).map (fun i => match w.cell? (a.add i) with | some (.int _ z) => z | _ => 0), rfl, hl, hcap, by simp, ?_, ?_⟩
    · by_cases h0 : len * m = 0
      · left; rw [h0]; rfl
      · have hlp : 0 < len := Nat.pos_of_ne_zero fun hz => h0 (by rw [hz, Nat.zero_mul])
        obtain ⟨z0, hz0, _⟩ := cell 0 0 hlp hm0
        rw [Nat.zero_mul] at hz0
        have hz0' : w.cell? a = some (.int k z0) := hz0
        obtain ⟨g, off, spot⟩ := a
        unfold World.cell? at hz0'
        simp only at hz0'
        cases hg : w.heap[g]? with
        | none => rw [hg] at hz0'; cases hz0'
        | some ob =>
          rw [hg] at hz0'
          cases ob with
          | cells cs T fz =>
            simp only at hz0'
            cases spot with
            | some s => simp at hz0'
            | none =>
              refine .inr ⟨g, off, T, cs, fz, rfl, hg, fun i x hx => ?_⟩
              have hil : i < len * m := by have := (List.getElem?_eq_some_iff.1 hx).1; simpa using this
              obtain ⟨z, hz, _⟩ := cell (i / m) (i % m) ((Nat.div_lt_iff_lt_mul hm0).2 hil) (Nat.mod_lt _ hm0)
              rw [Nat.div_add_mod' i m] at hz
              simp only [List.getElem?_map, List.getElem?_range hil, Option.map_some, hz, Option.some.injEq] at hx
              subst hx
              rw [addr_addn, cell_of_row w g (off + i) cs T fz hg] at hz
              exact hz
          | _ => cases hz0'
    · intro y hy
      obtain ⟨i, hi', rfl⟩ := List.mem_map.1 hy
      have hil : i < len * m := by simpa using hi'
      obtain ⟨z, hz, hzk⟩ := cell (i / m) (i % m) ((Nat.div_lt_iff_lt_mul hm0).2 hil) (Nat.mod_lt _ hm0)
      rw [Nat.div_add_mod' i m] at hz
      rw [hz]; exact hzk
end
theorem ok_rowI {H : Type} {enc : TypeId × Value → H} {P : Program} {w : World} {r : Reach} {base : Nat} {spare : Nat → Bool} {held : Bool} {t e : TypeId} {m d : Nat} {k : IntKind} {us : List TypeId} {v : Value} {dd : DataW H} {pp : List MemPlace} (ht : P.underlying t = some (.slice e)) (hf : flatC P d e = some us) (hm : us.length = m) (hm0 : 0 < m) (hC : P.cellsOf e = m)
    (hk : us.all (fun u => isIntK P k u) = true) (ho : Value.okWide P w r base t v) (h : DataW.Trod enc P w 0 spare held t v dd pp) :
    ∃ (A : Option Addr) (l c : Nat) (L : List Int), v = .slice A l c ∧ l ≤ c ∧ c ≤ 9223372036854775807 ∧ L.length = l * m ∧ RdI w k A L ∧ ∀ y ∈ L, k.has y := by
  obtain ⟨fuel, hf'⟩ := h
  have hv : v.cells.toList = [v] := by
    unfold Value.okWide at ho
    rw [ht] at ho
    simp only at ho
    unfold Cell.okWide at ho
    rw [ht] at ho
    simp only at ho
    unfold Cell.ok at ho
    rw [ht] at ho
    cases v <;> simp only at ho <;> rfl
  rw [hv] at hf'
  obtain ⟨A, l, c, L, h1, h2, h3, h4⟩ := open_ints ht hf hm hm0 hC hk hf'
  exact ⟨A, l, c, L, h1, h2, by simpa [maxLen] using h3, h4⟩
end Go.Proofs.Ytfmkadgjoechnaa.Fw
set_option linter.unusedVariables false
set_option linter.unusedSimpArgs false
namespace Go.Proofs.Ytfmkadgjoechnaa.Fw
open Go Go.RowKit
theorem Ow.mono {w : World} {base base' T c : Nat} {k : IntKind} {A : Option Addr} {L : List Int} (h : Ow w base T k A c L) (hb : base' ≤ base) : Ow w base' T k A c L := by
  obtain ⟨⟨h1, h2⟩, h3⟩ := h
  refine ⟨⟨h1, ?_⟩, Nat.le_trans hb h3⟩
  rcases h2 with h2 | ⟨g, cap, cur, hv, hbg, r⟩
  · exact .inl h2
  · exact .inr ⟨g, cap, cur, hv, Nat.le_trans hb hbg, r⟩
theorem Wd.lt {w : World} {T : Nat} {k : IntKind} {A : Option Addr} {xs : List Int} (h : Wd w T k A xs) : ∀ g o, A = some ⟨g, o, none⟩ → g < w.heap.size := by
  intro g o hA
  rcases h with ⟨_, h⟩ | ⟨g', off, cs, fz, hA', hg, _⟩
  · rw [h] at hA; cases hA
  · rw [hA'] at hA
    injection hA with hA
    injection hA with h1 _ _
    rw [← h1]; exact lt_of_blk hg
theorem Wd.bl {w w' : World} {T base : Nat} {k : IntKind} {A : Option Addr} {xs : List Int} (h : Wd w T k A xs) (e : Below base w w') (hlt : ∀ g o, A = some ⟨g, o, none⟩ → g < base) : Wd w' T k A xs := by
  rcases h with h | ⟨g, off, cs, fz, hA, hg, hc⟩
  · exact .inl h
  · exact .inr ⟨g, off, cs, fz, hA, bl_blk e hg (hlt g off hA), hc⟩
theorem Ow.lt {w : World} {base T c : Nat} {k : IntKind} {A : Option Addr} {L : List Int} (h : Ow w base T k A c L) : ∀ g o, A = some ⟨g, o, none⟩ → g < w.heap.size := h.wd.lt
theorem Ow.bl {w w' : World} {base base' T c : Nat} {k : IntKind} {A : Option Addr} {L : List Int} (h : Ow w base T k A c L) (e : Below base' w w') (hlt : ∀ g o, A = some ⟨g, o, none⟩ → g < base') : Ow w' base T k A c L := by
  obtain ⟨⟨h1, h2⟩, h3⟩ := h
  refine ⟨⟨h1, ?_⟩, Nat.le_trans h3 e.size⟩
  rcases h2 with h2 | ⟨g, cap, cur, hv, hbg, hg, r⟩
  · exact .inl h2
  · injection hv with hA _ hc
    exact .inr ⟨g, cap, cur, by rw [hA, hc], hbg, bl_blk e hg (hlt g 0 hA), r⟩
theorem RdI.lt {w : World} {k : IntKind} {A : Option Addr} {L : List Int} (h : RdI w k A L) (hp : 0 < L.length) : ∀ g o, A = some ⟨g, o, none⟩ → g < w.heap.size := by
  intro g o hA
  rcases h with h | ⟨g', off, T, cs, fz, hA', hg, _⟩
  · have := congrArg List.length h; simp at this; subst this; simp at hp
  · rw [hA'] at hA
    injection hA with hA
    injection hA with h1 _ _
    rw [← h1]; exact lt_of_blk hg
end Go.Proofs.Ytfmkadgjoechnaa.Fw
set_option linter.unusedVariables false
set_option linter.unusedSimpArgs false
namespace Go.Proofs.Ytfmkadgjoechnaa.Fw
open Go Go.RowKit
structure Bx (b : Nat) (w w' : World) : Prop where
  os : w'.os = w.os
  tape : w'.tape = w.tape
  output : w'.output = w.output
  size : w.heap.size ≤ w'.heap.size
  block : ∀ k, k < w.heap.size → k ≠ b → w'.heap[k]? = w.heap[k]?
theorem Bx.refl (b : Nat) (w : World) : Bx b w w := ⟨rfl, rfl, rfl, Nat.le_refl _, fun _ _ _ => rfl⟩
theorem Bx.trans {b : Nat} {w w1 w2 : World} (h : Bx b w w1) (h2 : Bx b w1 w2) : Bx b w w2 :=
  ⟨h2.os.trans h.os, h2.tape.trans h.tape, h2.output.trans h.output, Nat.le_trans h.size h2.size, fun k hk hb => (h2.block k (Nat.lt_of_lt_of_le hk h.size) hb).trans (h.block k hk hb)⟩
theorem bx_ext {b : Nat} {w w1 w2 : World} (h : Bx b w w1) (e : Ext w1 w2) : Bx b w w2 :=
  ⟨e.os.trans h.os, e.tape.trans h.tape, e.output.trans h.output, Nat.le_trans h.size e.size, fun k hk hb => (e.block k (Nat.lt_of_lt_of_le hk h.size)).trans (h.block k hk hb)⟩
theorem bx_st {b : Nat} {w w1 w2 : World} (h : Bx b w w1) (x : St b w1 w2) : Bx b w w2 :=
  ⟨x.os.trans h.os, x.tape.trans h.tape, x.output.trans h.output, Nat.le_trans h.size (Nat.le_of_eq x.size.symm), fun k hk hb => (x.block k hb).trans (h.block k hk hb)⟩
theorem bx_stN {b b' : Nat} {w w1 w2 : World} (h : Bx b w w1) (hN : w.heap.size ≤ b') (x : St b' w1 w2) : Bx b w w2 :=
  ⟨x.os.trans h.os, x.tape.trans h.tape, x.output.trans h.output, Nat.le_trans h.size (Nat.le_of_eq x.size.symm), fun k hk hb => (x.block k (by omega)).trans (h.block k hk hb)⟩
theorem below_bx {b : Nat} {w0 w w' : World} (h : Ext w0 w) (hb : w0.heap.size ≤ b) (e : Bx b w w') : Ext w0 w' :=
  ⟨e.os.trans h.os, e.tape.trans h.tape, e.output.trans h.output, Nat.le_trans h.size e.size, fun k hk => (e.block k (Nat.lt_of_lt_of_le hk h.size) (by omega)).trans (h.block k hk)⟩
theorem bx_blk {b k : Nat} {w w' : World} {o : Obj} (e : Bx b w w') (h : w.heap[k]? = some o) (hne : k ≠ b) : w'.heap[k]? = some o := (e.block k (lt_of_blk h) hne).trans h
theorem RdI.bx {b : Nat} {w w' : World} {k : IntKind} {A : Option Addr} {L : List Int} (h : RdI w k A L) (e : Bx b w w') (hne : L = [] ∨ ∀ g o, A = some ⟨g, o, none⟩ → g ≠ b) : RdI w' k A L := by
  rcases hne with h0 | hne
  · subst h0; exact .inl rfl
  · rcases h with h | ⟨g, off, T, cs, fz, hA, hg, hc⟩
    · exact .inl h
    · exact .inr ⟨g, off, T, cs, fz, hA, bx_blk e hg (hne g off hA), hc⟩
theorem RdI.ne {w : World} {k : IntKind} {A : Option Addr} {L : List Int} {b : Nat} (h : RdI w k A L) (hb : w.heap.size ≤ b) : L = [] ∨ ∀ g o, A = some ⟨g, o, none⟩ → g ≠ b := by
  by_cases h0 : L = []
  · exact .inl h0
  · refine .inr fun g o hA => ?_
    have := h.lt (List.length_pos_iff.2 h0) g o hA
    omega
theorem Wd.bx {w w' : World} {T T' b : Nat} {k : IntKind} {A : Option Addr} {xs : List Int} {cs' : Array Value} {fz' : Nat × Nat} (h : Wd w T k A xs) (e : Bx b w w') (hb : w.heap[b]? = some (.cells cs' T' fz')) (hT : T' ≠ T) : Wd w' T k A xs := by
  rcases h with h | ⟨g, off, cs, fz, hA, hg, hc⟩
  · exact .inl h
  · refine .inr ⟨g, off, cs, fz, hA, bx_blk e hg ?_, hc⟩
    intro he
    subst he
    rw [hg] at hb
    injection hb with hb
    injection hb with _ hb _
    exact hT hb.symm
theorem Num.bx {m T T' b s l c : Nat} {k : IntKind} {w w' : World} {neg : Bool} {A : Option Addr} {z : Int} {cs' : Array Value} {fz' : Nat × Nat} (h : Num m T k w neg A l c z s) (e : Bx b w w') (hb : w.heap[b]? = some (.cells cs' T' fz')) (hT : T' ≠ T) : Num m T k w' neg A l c z s := by
  obtain ⟨xs, h1, h2, h3, h4⟩ := h
  exact ⟨xs, h1, h2, h3.bx e hb hT, h4⟩
theorem Wc.bx {m T T' b l c : Nat} {k : IntKind} {w w' : World} {A : Option Addr} {x : Int} {cs' : Array Value} {fz' : Nat × Nat} (h : Wc m T k w A l c x) (e : Bx b w w') (hb : w.heap[b]? = some (.cells cs' T' fz')) (hT : T' ≠ T) : Wc m T k w' A l c x := by
  obtain ⟨xs, h1, h2, h3, h4⟩ := h
  exact ⟨xs, h1, h2, h3.bx e hb hT, h4⟩
theorem Ws.bx {m T T' b l c : Nat} {k : IntKind} {w w' : World} {A : Option Addr} {x : Int} {cs' : Array Value} {fz' : Nat × Nat} (h : Ws m T k w A l c x) (e : Bx b w w') (hb : w.heap[b]? = some (.cells cs' T' fz')) (hT : T' ≠ T) : Ws m T k w' A l c x := by
  obtain ⟨xs, h1, h2, h3, h4⟩ := h
  exact ⟨xs, h1, h2, h3.bx e hb hT, h4⟩
theorem wrap_rg64 (x : Int) : 0 ≤ IntKind.u64.wrap x ∧ IntKind.u64.wrap x < 18446744073709551616 := by
  simp [IntKind.wrap, IntKind.signed, IntKind.bits]
  omega
theorem wrap_rgi (x : Int) : -9223372036854775808 ≤ IntKind.i64.wrap x ∧ IntKind.i64.wrap x ≤ 9223372036854775807 := by
  simp [IntKind.wrap, IntKind.signed, IntKind.bits]
  omega
theorem shr_rg {x : Int} {K : Nat} {B : Int} (h : 0 ≤ x ∧ x < B) : 0 ≤ x / 2 ^ K ∧ x / 2 ^ K < B := by
  have hp : (0 : Int) < 2 ^ K := Int.pow_pos (by decide)
  exact ⟨Int.ediv_nonneg h.1 (Int.le_of_lt hp), Int.lt_of_le_of_lt (Int.ediv_le_self _ h.1) h.2⟩
theorem lit_rg {lo hi : Int} {L : List Int} (h : L.all (fun y => decide (lo ≤ y ∧ y ≤ hi)) = true) (h0 : lo ≤ 0 ∧ 0 ≤ hi) (i : Nat) : lo ≤ L.getD i 0 ∧ L.getD i 0 ≤ hi := by
  rw [List.getD_eq_getElem?_getD]
  cases hL : L[i]? with
  | none => simpa using h0
  | some y =>
    have := List.all_eq_true.1 h y (List.mem_of_getElem? hL)
    simpa using this
theorem or_rg64 (a b : Int) : 0 ≤ bitV .u64 .or a b ∧ bitV .u64 .or a b < 18446744073709551616 := by
  unfold bitV; exact wrap_rg64 _
end Go.Proofs.Ytfmkadgjoechnaa.Fw
namespace Go.Proofs.Ytfmkadgjoechnaa.Fw
open Go Go.RowKit
theorem u8_rg {x : Int} (h : IntKind.u8.has x) : 0 ≤ x ∧ x < 256 := by
  simp [IntKind.has, IntKind.min, IntKind.max, IntKind.signed, IntKind.bits] at h
  omega
end Go.Proofs.Ytfmkadgjoechnaa.Fw
set_option linter.unusedVariables false
namespace Go.Proofs.Ytfmkadgjoechnaa.Fw
open Go Go.RowKit
theorem okC_lit (l : List Int) (h : l.all (fun x => decide (0 ≤ x ∧ x < 256)) = true) : okW 256 l := fun c hc => by
  have := List.all_eq_true.1 h c hc
  simpa using this
end Go.Proofs.Ytfmkadgjoechnaa.Fw
set_option linter.unusedVariables false
set_option linter.unusedSimpArgs false
namespace Go.Proofs.Ytfmkadgjoechnaa.Fw
open Go Go.RowKit
theorem okLs {L : List (List Int)} (h : (L.all fun l => decide (l.length ≤ 80) && l.all fun x => decide (0 ≤ x ∧ x < 256)) = true) (i : Nat) : ∃ M, M = L.getD i [] ∧ okW 256 M ∧ M.length ≤ 80 := by
  refine ⟨_, rfl, ?_⟩
  rw [List.getD_eq_getElem?_getD]
  rcases hh : L[i]? with _ | M
  · exact ⟨fun c hc => by simp at hc, by simp⟩
  · have h1 := List.all_eq_true.1 h M (List.mem_of_getElem? hh)
    rw [Bool.and_eq_true, decide_eq_true_iff] at h1
    refine ⟨fun c hc => ?_, h1.1⟩
    have h2 := List.all_eq_true.1 h1.2 c hc
    exact of_decide_eq_true h2
theorem dv_loadSt {P : Program} {n : Nat} {fr : Fr} {w : World} {ty t : TypeId} {x : Operand} {b T i : Nat} {L : List (List Int)} {l : List Value} {M : List Int} {fz : Nat × Nat} (ht : aggB P t = some false) (hx : EV n fr x (.pointer (some ⟨b, i, none⟩)))
    (hb : w.heap[b]? = some (.cells l.toArray T fz)) (hl : l = L.map fun s => .string (bOf s)) (hi : i < L.length) (hM : M = L.getD i []) : DV P n (.load t x) ty fr w (.string (bOf M)) :=
  dv_load1 ht hx hb (by subst hl; subst hM; simp [hi, List.getD_eq_getElem?_getD])
theorem cT1 {L : List Int} (h : rdS L) : txtL (rdZ L) = L := by rw [rdZ, pkz_t h]; exact h.1
theorem cT2 {a : Int} (h1 : fits (a + a)) (h2 : ¬ sgnI a = 0) : (nbits (fz (a + a)).natAbs : Int) = (nbits a.natAbs : Int) + 1 := by
  have h0 : a ≠ 0 := fun h => h2 (sgnI_zero.2 h)
  rw [fz_t h1, nbits_half (x := (a + a).natAbs) (by omega), show (a + a).natAbs / 2 = a.natAbs by omega]
  omega
theorem nb_fits {a : Int} (h : fits a) : nbits a.natAbs ≤ 256 := by
  rw [nbits_le_iff]
  exact fits_natAbs h
end Go.Proofs.Ytfmkadgjoechnaa.Fw
set_option linter.unusedVariables false
set_option linter.unusedSimpArgs false
namespace Go.Proofs.Ytfmkadgjoechnaa.Fw
open Go Go.RowKit
def MLn (g : Nat) (w : World) : Prop := ∃ m : Int, w.cell? ⟨g, 0, none⟩ = some (.int .i64 m)
theorem MLn.ext {g : Nat} {w w' : World} (h : MLn g w) (e : Ext w w') : MLn g w' := by
  obtain ⟨m, hm⟩ := h
  refine ⟨m, ?_⟩
  unfold World.cell? at hm ⊢
  simp only at hm ⊢
  cases hg : w.heap[g]? with
  | none => rw [hg] at hm; cases hm
  | some o => rw [hg] at hm; rw [e.blk hg]; exact hm
theorem txt_len78 {z : Int} (h : fits z) : (txtL z).length ≤ 78 := by
  have h2 := canD_txt z
  exact (canD_len77 h2.1 (by rw [h2.2]; exact h)).2
end Go.Proofs.Ytfmkadgjoechnaa.Fw
