/- Walks and plain mathematics, packed by a program of this session: declarations that the rows reach. -/
import Derived.Deep.Slices
import Derived.Test.YtdanhdbanfpghaaQHitAta
set_option linter.unusedVariables false
set_option linter.unusedSimpArgs false
namespace Go.Proofs.Ytdanhdbanfpghaa.Fw
open Go Go.RowKit
def Rd (w : World) (A : Option Addr) (vs : List Value) : Prop :=
  vs = [] ∨ ∃ (g off T : Nat) (cs : Array Value) (fz : Nat × Nat), A = some ⟨g, off, none⟩ ∧ w.heap[g]? = some (.cells cs T fz) ∧ ∀ i x, vs[i]? = some x → cs[off + i]? = some x
theorem Rd.ext {w w' : World} {A : Option Addr} {vs : List Value} (h : Rd w A vs) (e : Ext w w') : Rd w' A vs := by
  rcases h with h | ⟨g, off, T, cs, fz, hA, hg, hc⟩
  · exact .inl h
  · exact .inr ⟨g, off, T, cs, fz, hA, e.blk hg, hc⟩
theorem Rd.at {w : World} {A : Option Addr} {vs : List Value} (h : Rd w A vs) (hp : 0 < vs.length) : ∃ g off, A = some ⟨g, off, none⟩ := by
  rcases h with h | ⟨g, off, T, cs, fz, hA, hg, hc⟩
  · rw [h] at hp; simp at hp
  · exact ⟨g, off, hA⟩
theorem Rd.cell {w : World} {g off i : Nat} {vs : List Value} {v : Value} (h : Rd w (some ⟨g, off, none⟩) vs) (hi : vs[i]? = some v) : w.cell? ⟨g, off + i, none⟩ = some v := by
  rcases h with h | ⟨g', off', T, cs, fz, hA, hg, hc⟩
  · rw [h] at hi; cases hi
  · obtain ⟨rfl, rfl⟩ : g = g' ∧ off = off' := by simpa using hA
    rw [cell_of_row w g (off + i) cs T fz hg]
    exact hc i v hi
def RdI (w : World) (k : IntKind) (A : Option Addr) (L : List Int) : Prop := Rd w A (L.map (Value.int k))
theorem RdI.ext {w w' : World} {k : IntKind} {A : Option Addr} {L : List Int} (h : RdI w k A L) (e : Ext w w') : RdI w' k A L := Rd.ext h e
theorem RdI.at {w : World} {k : IntKind} {A : Option Addr} {L : List Int} (h : RdI w k A L) (hp : 0 < L.length) : ∃ g off, A = some ⟨g, off, none⟩ := Rd.at h (by simpa using hp)
theorem RdI.cell {w : World} {k : IntKind} {g off i : Nat} {L : List Int} (h : RdI w k (some ⟨g, off, none⟩) L) (hi : i < L.length) : w.cell? ⟨g, off + i, none⟩ = some (.int k (L.getD i 0)) :=
  Rd.cell h (by simp [List.getElem?_map, hi, List.getD_eq_getElem?_getD])
theorem Wd.rdI {w : World} {T : Nat} {k : IntKind} {A : Option Addr} {L : List Int} (h : Wd w T k A L) : RdI w k A L := by
  rcases h with ⟨h1, h2⟩ | ⟨g, off, cs, fz, hA, hg, hc⟩
  · exact .inl (by rw [h1]; rfl)
  · refine .inr ⟨g, off, T, cs, fz, hA, hg, fun i x hi => ?_⟩
    rw [List.getElem?_map] at hi
    cases hL : L[i]? with
    | none => rw [hL] at hi; cases hi
    | some y =>
      rw [hL] at hi
      have e : x = .int k y := by simpa using hi.symm
      rw [e]; exact hc i y hL
theorem addr_addn {g off m : Nat} : (⟨g, off, none⟩ : Addr).add m = ⟨g, off + m, none⟩ := by unfold Addr.add; split <;> simp_all
section
variable {P : Program} {n : Nat} {fr : Fr} {w : World} {ty : TypeId}
theorem dv_indexM {t e : TypeId} {x y : Operand} {g o l c i m : Nat} {k : IntKind} {j : Int} (ht : P.underlying t = some (.slice e)) (hs : sizeB P e = some m)
    (hx : EV n fr x (.slice (some ⟨g, o, none⟩) l c)) (hy : EV n fr y (.int k j)) (hj : j = (i : Nat)) (hl : i < l) : DV P n (.indexAddr t x y) ty fr w (.pointer (some ⟨g, o + i * m, none⟩)) :=
  dv_indexAddr ht hs hx hy (by omega) (by omega) (by subst hj; exact addr_addn)
theorem dv_indexOM {t e : TypeId} {x y : Operand} {g l c i m : Nat} {k : IntKind} {j : Int} (ht : P.underlying t = some (.slice e)) (hs : sizeB P e = some m)
    (hx : EV n fr x (.slice (some ⟨g, 0, none⟩) l c)) (hy : EV n fr y (.int k j)) (hj : j = (i : Nat)) (hl : i < l) : DV P n (.indexAddr t x y) ty fr w (.pointer (some ⟨g, i * m, none⟩)) :=
  dv_indexAddr ht hs hx hy (by omega) (by omega) (by subst hj; rw [addr_addn, Nat.zero_add]; rfl)
theorem dv_fieldO {s i : Nat} {x : Operand} {g off j : Nat} (hf : fieldOffB P s j = some off) (hx : EV n fr x (.pointer (some ⟨g, i, none⟩))) :
    DV P n (.fieldAddr s x j) ty fr w (.pointer (some ⟨g, i + off, none⟩)) := dv_fieldAddr hf hx addr_addn
theorem loadVar_at {t : TypeId} {g o m : Nat} {l : List Value} (ht : aggB P t = some true) (hs : sizeB P t = some m) (hl : l.length = m)
    (hc : ∀ j v, l[j]? = some v → w.cell? ⟨g, o + j, none⟩ = some v) : (loadVar t ⟨g, o, none⟩).run P w = .ok (.agg l.toArray) w := by
  have hld : (loadCells ⟨g, o, none⟩ l.length).run P w = .ok l.toArray w := by
    refine run_loadCells_list _ _ l fun j v hj => ?_
    rw [addr_addn]
    exact hc j v hj
  rw [hl] at hld
  simp [loadVar, run_isAgg ht, run_sizeOf hs, hld]
theorem dv_loadsR {t : TypeId} {x : Operand} {g o m : Nat} {l : List Value} (ht : aggB P t = some true) (hs : sizeB P t = some m) (hx : EV n fr x (.pointer (some ⟨g, o, none⟩))) (hl : l.length = m)
    (hc : ∀ j v, l[j]? = some v → w.cell? ⟨g, o + j, none⟩ = some v) : DV P n (.load t x) ty fr w (.agg l.toArray) := fun _ _ _ _ => by
  unfold EV at hx
  have := loadVar_at (w := w) ht hs hl hc
  simp [execOp, hx, Instr.loadAt, Instr.sureAddr, this]
def getM (k : IntKind) (L : List Int) (i m : Nat) : List Value := (List.range m).map fun j => Value.int k (L.getD (i + j) 0)
theorem getM_get {k : IntKind} {L : List Int} {i m j : Nat} {v : Value} (h : (getM k L i m)[j]? = some v) : j < m ∧ v = .int k (L.getD (i + j) 0) := by
  unfold getM at h
  have hj := (List.getElem?_eq_some_iff.1 h).1
  simp only [List.length_map, List.length_range] at hj
  rw [List.getElem?_map, List.getElem?_range hj] at h
  exact ⟨hj, by simpa using h.symm⟩
theorem dv_loadsI {t : TypeId} {x : Operand} {g o i m : Nat} {k : IntKind} {L : List Int} {l : List Value} (ht : aggB P t = some true) (hs : sizeB P t = some m) (hx : EV n fr x (.pointer (some ⟨g, o + i, none⟩)))
    (hR : RdI w k (some ⟨g, o, none⟩) L) (hi : i + m ≤ L.length) (hl : getM k L i m = l) : DV P n (.load t x) ty fr w (.agg l.toArray) := by
  subst hl
  refine dv_loadsR ht hs hx (by simp [getM]) fun j v hj => ?_
  obtain ⟨hjm, rfl⟩ := getM_get hj
  rw [Nat.add_assoc]
  exact hR.cell (by omega)
def setM (L : List Int) : Nat → List Int → List Int
  | _, [] => L
  | i, x :: xs => setM (L.set i x) (i + 1) xs
theorem setM_len : ∀ (xs : List Int) (L : List Int) (i : Nat), (setM L i xs).length = L.length
  | [], _, _ => rfl
  | x :: xs, L, i => by simp [setM, setM_len xs]
theorem setM_take2 : ∀ (xs : List Int) (L : List Int) (i : Nat), i + xs.length ≤ L.length → (setM L i xs).take (i + xs.length) = L.take i ++ xs
  | [], L, i, _ => by simp [setM]
  | x :: xs, L, i, h => by
    have hl : i < L.length := by simp at h; omega
    have := setM_take2 xs (L.set i x) (i + 1) (by simp at h ⊢; omega)
    show (setM (L.set i x) (i + 1) xs).take (i + (xs.length + 1)) = _
    rw [show i + (xs.length + 1) = i + 1 + xs.length by omega, this, List.take_set, List.take_succ_eq_append_getElem hl]
    rw [List.set_append_right _ _ (by simp; omega)]
    simp [Nat.min_eq_left (Nat.le_of_lt hl)]
theorem stC_setM {k : IntKind} : ∀ (xs : List Int) (L : List Int) (i : Nat), i + xs.length ≤ L.length → stC (L.map (Value.int k)) i (xs.map (Value.int k)) = some ((setM L i xs).map (Value.int k))
  | [], L, i, _ => by rw [List.map_nil, stC_nil]; rfl
  | x :: xs, L, i, h => by
    have hm := stC_mid i (L.map (Value.int k)) ((x :: xs).map (Value.int k)) (by simpa using h)
    rw [hm]
    congr 1
    have h2 := setM_take2 (x :: xs) L i h
    have h3 : (setM L i (x :: xs)).drop (i + (x :: xs).length) = L.drop (i + (x :: xs).length) := by
      clear hm h2
      generalize x :: xs = ys at h ⊢
      induction ys generalizing L i with
      | nil => rfl
      | cons y ys ih =>
        have := ih (L.set i y) (i + 1) (by simp at h ⊢; omega)
        show (setM (L.set i y) (i + 1) ys).drop (i + (ys.length + 1)) = _
        rw [show i + (ys.length + 1) = i + 1 + ys.length by omega, this]
        rw [List.drop_set, if_pos (by omega)]
        congr 1
        simp
        omega
    have h4 := (List.take_append_drop (i + (x :: xs).length) (setM L i (x :: xs)))
    rw [h2, h3] at h4
    rw [← h4]
    simp [List.map_append, List.map_take, List.map_drop]
theorem oe_storeM {t : TypeId} {x y : Operand} {b T i m : Nat} {k : IntKind} {L : List Int} {zs : List Int} {v : Value} {K : Value → World → Prop} (hs : sizeB P t = some m) (hx : EV n fr x (.pointer (some ⟨b, i, none⟩))) (hy : EV n fr y v)
    (hv : v.cells = (zs.map (Value.int k)).toArray) (hm : zs.length = m) (hb : w.heap[b]? = some (.cells (L.map (Value.int k)).toArray T)) (hi : i + m ≤ L.length)
    (h : ∀ w', St b w w' → w'.heap[b]? = some (.cells ((setM L i zs).map (Value.int k)).toArray T) → K undef w') : OE P n (.store t x y) ty fr w K :=
  oe_store hx hy hs hv (by simpa using hm) (by
    rw [List.all_eq_true]; intro u hu
    obtain ⟨z, _, rfl⟩ := List.mem_map.1 hu
    rfl) hb (stC_setM zs L i (by omega)) h
theorem set_inv {M xs zs : List Int} {i m : Nat} (hM : M.take i = xs.take i) (hl : i + m ≤ M.length) (hx : i + m ≤ xs.length) (hz : zs = (List.range m).map fun j => xs.getD (i + j) 0) : (setM M i zs).take (i + m) = xs.take (i + m) := by
  have hzl : zs.length = m := by rw [hz]; simp
  have h := setM_take2 zs M i (by omega)
  rw [hzl] at h
  rw [h, hM, List.take_add, hz]
  congr 1
  apply List.ext_getElem (by simp; omega)
  intro j h1 h2
  simp at h1 h2
  simp [List.getD_eq_getElem?_getD, show i + j < xs.length by omega]
theorem oe_makeM {t e : TypeId} {x y : Operand} {kl kc k : IntKind} {l m bytes : Nat} {j : Int} {z : Value} {K : Value → World → Prop} (ht : P.underlying t = some (.slice e))
    (hi : (P.info? e).map (fun i => (i.zero, i.size, i.bytes)) = some (some z, m, bytes)) (hz : z.cells = (List.replicate m (Value.int k 0)).toArray) (hm : 0 < m) (hx : EV n fr x (.int kl j)) (hy : EV n fr y (.int kc j)) (hj : j = (l : Nat)) (hb : bytes * l ≤ 281474976710656) (hl : l ≤ 281474976710656)
    (h : ∀ b w', New w b (.cells ((List.replicate (l * m) (0 : Int)).map (Value.int k)).toArray e) w' → K (.slice (some ⟨b, 0, none⟩) l l) w') : OE P n (.makeSlice t x y) ty fr w K := by
  subst hj
  cases hin : P.info? e with
  | none => simp [hin] at hi
  | some inf =>
    simp only [hin, Option.map_some, Option.some.injEq, Prod.mk.injEq] at hi
    obtain ⟨h1, h2, h3⟩ := hi
    subst h3
    have hb' : (inf.bytes : Int) * (l : Int) ≤ 281474976710656 := by
      have h : ((inf.bytes * l : Nat) : Int) ≤ 281474976710656 := by omega
      rwa [Int.natCast_mul] at h
    have hr := run_make (P := P) w t e inf z ht hin h1 kl kc l l (by omega) (Int.le_refl _) hb' (by omega)
    simp only [Int.toNat_natCast, h2, hz] at hr
    have hmc : madeCells (List.replicate m (Value.int k 0)).toArray (l * m) = ((List.replicate (l * m) (0 : Int)).map (Value.int k)).toArray := by
      unfold madeCells
      apply Array.ext_getElem?
      intro i
      by_cases hlt : i < l * m
      · have hmod : i % m < m := Nat.mod_lt _ hm
        simp [hlt, hmod]
      · simp [hlt, Nat.le_of_not_lt hlt]
    rw [hmc] at hr
    refine OE.of_run (fun _ _ _ _ => ?_) (h _ _ (new_alloc w _))
    unfold EV at hx hy
    simp [execOp, hx, hy, hr]
end
def flatFs (P : Program) (g : TypeId → Option (List TypeId)) : Nat → List Field → Option (List TypeId)
  | _, [] => some []
  | o, f :: fs => match g f.type with
    | some l => if f.offset = o ∧ P.cellsOf f.type = l.length then (flatFs P g (o + l.length) fs).map (l ++ ·) else none
    | none => none
def flatC (P : Program) : Nat → TypeId → Option (List TypeId)
  | 0, _ => none
  | d + 1, t => match P.underlying t with
    | some (.struct fs) => (flatFs P (flatC P d) 0 fs.toList).bind fun l => if P.cellsOf t = l.length then some l else none
    | some (.int _) => if P.cellsOf t = 1 then some [t] else none
    | some (.slice _) => if P.cellsOf t = 1 then some [t] else none
    | _ => none
def isIntK (P : Program) (k : IntKind) (u : TypeId) : Bool := match P.underlying u with
  | some (.int k') => decide (k' = k)
  | _ => false
theorem isIntK_spec {P : Program} {k : IntKind} {u : TypeId} (h : isIntK P k u = true) : P.underlying u = some (.int k) := by
  unfold isIntK at h
  split at h
  · rename_i k' hk; rw [hk]; simp at h; rw [h]
  · cases h
section
variable {H : Type} {enc : TypeId × Value → H} {P : Program} {w : World} {base : Nat} {spare : Nat → Bool} {held : Bool}
theorem flatFs_get {g : TypeId → Option (List TypeId)} {cs : List Value} {n : Nat} (hg : ∀ (t : TypeId) (us : List TypeId) (m : Nat) (fs' : List Nat) (cs' : List Value) (x : DataW H × List MemPlace), g t = some us → DataW.trod enc P w base spare held m t cs' = some x → cs'.length = us.length ∧ ∀ (j : Nat) (u : TypeId), us[j]? = some u → ∃ v m' y, cs'[j]? = some v ∧ DataW.trod enc P w base spare held m' u [v] = some y) :
    ∀ (fs : List Field) (o : Nat) (l : List TypeId), flatFs P g o fs = some l → (∀ f ∈ fs, ∃ y, DataW.trod enc P w base spare held n f.type ((cs.drop f.offset).take (P.cellsOf f.type)) = some y) →
      ∀ j u, l[j]? = some u → ∃ v m y, cs[o + j]? = some v ∧ DataW.trod enc P w base spare held m u [v] = some y := by
  intro fs
  induction fs with
  | nil => intro o l hl _ j u hj; simp [flatFs] at hl; subst hl; simp at hj
  | cons f fs ih =>
    intro o l hl hf j u hj
    simp only [flatFs] at hl
    cases hgf : g f.type with
    | none => rw [hgf] at hl; cases hl
    | some us =>
      rw [hgf] at hl
      simp only at hl
      by_cases hc : f.offset = o ∧ P.cellsOf f.type = us.length
      · rw [if_pos hc] at hl
        obtain ⟨l', hl', rfl⟩ := Option.map_eq_some_iff.1 hl
        obtain ⟨y, hy⟩ := hf f (List.mem_cons_self ..)
        obtain ⟨h1, h2⟩ := hg f.type us n [] _ y hgf hy
        by_cases hj' : j < us.length
        · rw [List.getElem?_append_left hj'] at hj
          obtain ⟨v, m, y', h3, h4⟩ := h2 j u hj
          refine ⟨v, m, y', ?_, h4⟩
          rw [List.getElem?_take_of_lt (by omega), List.getElem?_drop, hc.1] at h3
          exact h3
        · rw [List.getElem?_append_right (by omega)] at hj
          obtain ⟨v, m, y', h3, h4⟩ := ih (o + us.length) l' hl' (fun f' hf' => hf f' (List.mem_cons_of_mem _ hf')) (j - us.length) u hj
          refine ⟨v, m, y', ?_, h4⟩
          rw [← h3]; congr 1; omega
      · rw [if_neg hc] at hl; cases hl
theorem trod_flat : ∀ (d : Nat) (t : TypeId) (us : List TypeId) (m : Nat) (fs' : List Nat) (cs : List Value) (x : DataW H × List MemPlace), flatC P d t = some us → DataW.trod enc P w base spare held m t cs = some x →
    cs.length = us.length ∧ ∀ (j : Nat) (u : TypeId), us[j]? = some u → ∃ v m' y, cs[j]? = some v ∧ DataW.trod enc P w base spare held m' u [v] = some y := by
  intro d
  induction d with
  | zero => intro t us m _ cs x h; cases h
  | succ d ih =>
    intro t us m _ cs x h hx
    simp only [flatC] at h
    cases hu : P.underlying t with
    | none => rw [hu] at h; cases h
    | some td =>
      rw [hu] at h
      have one : ∀ (hh : (if P.cellsOf t = 1 then some [t] else none) = some us), (∃ v, cs = [v]) → cs.length = us.length ∧ ∀ (j : Nat) (u : TypeId), us[j]? = some u → ∃ v m' y, cs[j]? = some v ∧ DataW.trod enc P w base spare held m' u [v] = some y := by
        intro hh ⟨v, hv⟩
        by_cases hc : P.cellsOf t = 1
        · rw [if_pos hc] at hh
          obtain rfl : [t] = us := by simpa using hh
          subst hv
          refine ⟨rfl, fun j u hj => ?_⟩
          have hj0 : j = 0 := by
            have := (List.getElem?_eq_some_iff.1 hj).1
            simp at this; exact this
          subst hj0
          obtain rfl : t = u := by simpa using hj
          exact ⟨v, m, x, rfl, hx⟩
        · rw [if_neg hc] at hh; cases hh
      cases td with
      | struct fs =>
        simp only at h
        obtain ⟨l, hl, hif⟩ := Option.bind_eq_some_iff.1 h
        by_cases hc : P.cellsOf t = l.length
        · rw [if_pos hc] at hif
          obtain rfl : l = us := by simpa using hif
          obtain ⟨xs, n, _, _, hlen, hxl, hf⟩ := DataW.trod_struct hu hx
          refine ⟨by rw [hlen, hc], fun j u hj => ?_⟩
          have := flatFs_get (enc := enc) (w := w) (base := base) (spare := spare) (held := held) (cs := cs) (n := n) (g := flatC P d) (fun t us m fs' cs' x h1 h2 => ih t us m [] cs' x h1 h2) fs.toList 0 l hl (fun f hfm => by
            obtain ⟨i, hi, he⟩ := List.getElem_of_mem hfm
            have hi' : i < fs.size := by simpa using hi
            have h5 := hf i f (by rw [Array.getElem?_eq_getElem hi']; exact congrArg some (by simpa using he))
            exact ⟨xs[i]'(by omega), by rw [h5]; exact List.getElem?_eq_getElem _⟩) j u hj
          rwa [Nat.zero_add] at this
        · rw [if_neg hc] at hif; cases hif
      | int k =>
        refine one h ?_
        obtain ⟨x', h1, _⟩ := DataW.trod_int hu hx
        exact ⟨_, h1⟩
      | slice e =>
        refine one h ?_
        rcases DataW.trod_slice hu hx with ⟨h1, _⟩ | ⟨a, len, cap, elems, rest, n, _, h1, _⟩
        · exact ⟨_, h1⟩
        · exact ⟨_, h1⟩
      | _ => cases h
theorem open_ints {t e : TypeId} {fuel m d : Nat} {k : IntKind} {us : List TypeId} {v : Value} {x : DataW H × List MemPlace} (ht : P.underlying t = some (.slice e)) (hf : flatC P d e = some us) (hm : us.length = m) (hm0 : 0 < m) (hC : P.cellsOf e = m)
    (hk : us.all (fun u => isIntK P k u) = true) (h : DataW.trod enc P w base spare held fuel t [v] = some x) :
    ∃ (A : Option Addr) (l c : Nat) (L : List Int), v = .slice A l c ∧ l ≤ c ∧ c ≤ maxLen ∧ L.length = l * m ∧ RdI w k A L ∧ ∀ y ∈ L, k.has y := by
  rcases Go.Deep.open_slice ht h with ⟨h1, h2⟩ | ⟨a, len, cap, mm, nn, D, Pl, h1, hb, hl, hcap, hmm, hx, hi⟩
  · obtain rfl : v = .slice none 0 0 := by simpa using h1
    exact ⟨none, 0, 0, [], rfl, Nat.le_refl _, Nat.zero_le _, by simp, .inl rfl, fun y hy => by cases hy⟩
  · obtain rfl : v = .slice (some a) len cap := by simpa using h1
    have hlm : len ≤ mm := by rw [hmm]; split <;> omega
    have cell : ∀ i j, i < len → j < m → ∃ z : Int, w.cell? (a.add (i * m + j)) = some (.int k z) ∧ k.has z := by
      intro i j hil hjm
      obtain ⟨cs', hcs, htr⟩ := hi i (by omega)
      rw [hC] at hcs
      obtain ⟨h3, h4⟩ := trod_flat d e us nn [] cs' _ hf htr
      obtain ⟨_, hcl, hat⟩ := World.cells?_some hcs
      obtain ⟨u, hu⟩ : ∃ u, us[j]? = some u := ⟨us[j]'(by omega), List.getElem?_eq_getElem _⟩
      obtain ⟨v', m', y, h5, h6⟩ := h4 j u hu
      have hku : P.underlying u = some (.int k) := by
        exact isIntK_spec (List.all_eq_true.1 hk u (List.mem_of_getElem? hu))
      obtain ⟨z, h7, h8, h9⟩ := DataW.trod_int hku h6
      refine ⟨z, ?_, ?_⟩
      · have h10 := hat j (by omega)
        rw [h5] at h10
        obtain rfl : v' = .int k z := by simpa using h7
        rw [← Go.Deep.add_add]
        exact h10
      · simp only [Lit.wf, Bool.and_eq_true, decide_eq_true_eq] at h9
        exact h9
    refine ⟨some a, len, cap, (List.range (len * m)).map (fun i => match w.cell? (a.add i) with | some (.int _ z) => z | _ => 0), rfl, hl, hcap, by simp, ?_, ?_⟩
    · by_cases h0 : len * m = 0
      · left; rw [h0]; rfl
      · have hlp : 0 < len := Nat.pos_of_ne_zero fun hz => h0 (by rw [hz, Nat.zero_mul])
        obtain ⟨z0, hz0, _⟩ := cell 0 0 hlp hm0
        rw [Nat.zero_mul] at hz0
        have hz0' : w.cell? a = some (.int k z0) := hz0
        obtain ⟨g, off, spot⟩ := a
        unfold World.cell? at hz0'
        simp only at hz0'
        cases hg : w.heap[g]? with
        | none => rw [hg] at hz0'; cases hz0'
        | some ob =>
          rw [hg] at hz0'
          cases ob with
          | cells cs T fz =>
            simp only at hz0'
            cases spot with
            | some s => simp at hz0'
            | none =>
              refine .inr ⟨g, off, T, cs, fz, rfl, hg, fun i x hx => ?_⟩
              have hil : i < len * m := by have := (List.getElem?_eq_some_iff.1 hx).1; simpa using this
              obtain ⟨z, hz, _⟩ := cell (i / m) (i % m) ((Nat.div_lt_iff_lt_mul hm0).2 hil) (Nat.mod_lt _ hm0)
              rw [Nat.div_add_mod' i m] at hz
              simp only [List.getElem?_map, List.getElem?_range hil, Option.map_some, hz, Option.some.injEq] at hx
              subst hx
              rw [addr_addn, cell_of_row w g (off + i) cs T fz hg] at hz
              exact hz
          | _ => cases hz0'
    · intro y hy
      obtain ⟨i, hi', rfl⟩ := List.mem_map.1 hy
      have hil : i < len * m := by simpa using hi'
      obtain ⟨z, hz, hzk⟩ := cell (i / m) (i % m) ((Nat.div_lt_iff_lt_mul hm0).2 hil) (Nat.mod_lt _ hm0)
      rw [Nat.div_add_mod' i m] at hz
      rw [hz]; exact hzk
end
theorem ok_rowI {H : Type} {enc : TypeId × Value → H} {P : Program} {w : World} {r : Reach} {base : Nat} {spare : Nat → Bool} {held : Bool} {t e : TypeId} {m d : Nat} {k : IntKind} {us : List TypeId} {v : Value} {dd : DataW H} {pp : List MemPlace} (ht : P.underlying t = some (.slice e)) (hf : flatC P d e = some us) (hm : us.length = m) (hm0 : 0 < m) (hC : P.cellsOf e = m)
    (hk : us.all (fun u => isIntK P k u) = true) (ho : Value.okWide P w r base t v) (h : DataW.Trod enc P w 0 spare held t v dd pp) :
    ∃ (A : Option Addr) (l c : Nat) (L : List Int), v = .slice A l c ∧ l ≤ c ∧ c ≤ 9223372036854775807 ∧ L.length = l * m ∧ RdI w k A L ∧ ∀ y ∈ L, k.has y := by
  obtain ⟨fuel, hf'⟩ := h
  have hv : v.cells.toList = [v] := by
    unfold Value.okWide at ho
    rw [ht] at ho
    simp only at ho
    unfold Cell.okWide at ho
    rw [ht] at ho
    simp only at ho
    unfold Cell.ok at ho
    rw [ht] at ho
    cases v <;> simp only at ho <;> rfl
  rw [hv] at hf'
  obtain ⟨A, l, c, L, h1, h2, h3, h4⟩ := open_ints ht hf hm hm0 hC hk hf'
  exact ⟨A, l, c, L, h1, h2, by simpa [maxLen] using h3, h4⟩
end Go.Proofs.Ytdanhdbanfpghaa.Fw
set_option linter.unusedVariables false
set_option linter.unusedSimpArgs false
namespace Go.Proofs.Ytdanhdbanfpghaa.Fw
open Go Go.RowKit
theorem Ow.mono {w : World} {base base' T c : Nat} {k : IntKind} {A : Option Addr} {L : List Int} (h : Ow w base T k A c L) (hb : base' ≤ base) : Ow w base' T k A c L := by
  obtain ⟨⟨h1, h2⟩, h3⟩ := h
  refine ⟨⟨h1, ?_⟩, Nat.le_trans hb h3⟩
  rcases h2 with h2 | ⟨g, cap, cur, hv, hbg, r⟩
  · exact .inl h2
  · exact .inr ⟨g, cap, cur, hv, Nat.le_trans hb hbg, r⟩
theorem Ow.nil0 {w : World} {base T : Nat} {k : IntKind} (hb : base ≤ w.heap.size) : Ow w base T k none 0 [] := ⟨⟨rfl, .inl ⟨rfl, rfl⟩⟩, hb⟩
theorem Wd.lt {w : World} {T : Nat} {k : IntKind} {A : Option Addr} {xs : List Int} (h : Wd w T k A xs) : ∀ g o, A = some ⟨g, o, none⟩ → g < w.heap.size := by
  intro g o hA
  rcases h with ⟨_, h⟩ | ⟨g', off, cs, fz, hA', hg, _⟩
  · rw [h] at hA; cases hA
  · rw [hA'] at hA
    injection hA with hA
    injection hA with h1 _ _
    rw [← h1]; exact lt_of_blk hg
theorem Wd.bl {w w' : World} {T base : Nat} {k : IntKind} {A : Option Addr} {xs : List Int} (h : Wd w T k A xs) (e : Below base w w') (hlt : ∀ g o, A = some ⟨g, o, none⟩ → g < base) : Wd w' T k A xs := by
  rcases h with h | ⟨g, off, cs, fz, hA, hg, hc⟩
  · exact .inl h
  · exact .inr ⟨g, off, cs, fz, hA, bl_blk e hg (hlt g off hA), hc⟩
theorem Ow.lt {w : World} {base T c : Nat} {k : IntKind} {A : Option Addr} {L : List Int} (h : Ow w base T k A c L) : ∀ g o, A = some ⟨g, o, none⟩ → g < w.heap.size := h.wd.lt
theorem Ow.bl {w w' : World} {base base' T c : Nat} {k : IntKind} {A : Option Addr} {L : List Int} (h : Ow w base T k A c L) (e : Below base' w w') (hlt : ∀ g o, A = some ⟨g, o, none⟩ → g < base') : Ow w' base T k A c L := by
  obtain ⟨⟨h1, h2⟩, h3⟩ := h
  refine ⟨⟨h1, ?_⟩, Nat.le_trans h3 e.size⟩
  rcases h2 with h2 | ⟨g, cap, cur, hv, hbg, hg, r⟩
  · exact .inl h2
  · injection hv with hA _ hc
    exact .inr ⟨g, cap, cur, by rw [hA, hc], hbg, bl_blk e hg (hlt g 0 hA), r⟩
theorem RdI.lt {w : World} {k : IntKind} {A : Option Addr} {L : List Int} (h : RdI w k A L) (hp : 0 < L.length) : ∀ g o, A = some ⟨g, o, none⟩ → g < w.heap.size := by
  intro g o hA
  rcases h with h | ⟨g', off, T, cs, fz, hA', hg, _⟩
  · have := congrArg List.length h; simp at this; subst this; simp at hp
  · rw [hA'] at hA
    injection hA with hA
    injection hA with h1 _ _
    rw [← h1]; exact lt_of_blk hg
end Go.Proofs.Ytdanhdbanfpghaa.Fw
set_option linter.unusedVariables false
set_option linter.unusedSimpArgs false
namespace Go.Proofs.Ytdanhdbanfpghaa.Fw
def szV (l : Nat) (n : Int) : Int := if n - l < 0 then -1 else n - l
theorem szV_rg {l : Nat} {n : Int} (h : ¬ szV l n < 0) : (l : Int) ≤ n := by
  unfold szV at h; split at h <;> omega
theorem take_eq {xs ys : List Int} {i m : Nat} (h : xs.take i = ys.take i) (hx : i + m ≤ xs.length) (hy : i + m ≤ ys.length) (hj : ∀ j, j < m → xs.getD (i + j) 0 = ys.getD (i + j) 0) : xs.take (i + m) = ys.take (i + m) := by
  rw [List.take_add, List.take_add, h]
  congr 1
  apply List.ext_getElem (by simp; omega)
  intro j h1 h2
  simp at h1 h2
  have := hj j (by omega)
  simpa [List.getD_eq_getElem?_getD, show i + j < xs.length by omega, show i + j < ys.length by omega] using this
theorem take_eq1 {xs ys : List Int} {i : Nat} (h : xs.take i = ys.take i) (hx : i + 1 ≤ xs.length) (hy : i + 1 ≤ ys.length) (h0 : xs.getD i 0 = ys.getD i 0) : xs.take (i + 1) = ys.take (i + 1) :=
  take_eq h hx hy fun j hj => by obtain rfl : j = 0 := by omega
                                 exact h0
theorem take_eq4 {xs ys : List Int} {i : Nat} (h : xs.take i = ys.take i) (hx : i + 4 ≤ xs.length) (hy : i + 4 ≤ ys.length) (h0 : xs.getD i 0 = ys.getD i 0) (h1 : xs.getD (i + 1) 0 = ys.getD (i + 1) 0) (h2 : xs.getD (i + 2) 0 = ys.getD (i + 2) 0) (h3 : xs.getD (i + 3) 0 = ys.getD (i + 3) 0) : xs.take (i + 4) = ys.take (i + 4) :=
  take_eq h hx hy fun j hj => by
    rcases (show j = 0 ∨ j = 1 ∨ j = 2 ∨ j = 3 by omega) with rfl | rfl | rfl | rfl
    · exact h0
    · exact h1
    · exact h2
    · exact h3
theorem take_all {xs ys : List Int} {i : Nat} (h : xs.take i = ys.take i) (hx : xs.length ≤ i) (hy : ys.length ≤ i) : xs = ys := by
  rwa [List.take_of_length_le hx, List.take_of_length_le hy] at h
abbrev segAt (xs : List Int) (i : Nat) : Prop := segOk (xs.getD (i * 4) 0) (xs.getD (i * 4 + 1) 0) (xs.getD (i * 4 + 2) 0) (xs.getD (i * 4 + 3) 0)
def segsOk (l : Nat) (xs : List Int) : Prop := ∀ k, k < l → segAt xs k
instance (l : Nat) (xs : List Int) : Decidable (segsOk l xs) := by unfold segsOk; infer_instance
def sgF (l : Nat) (xs : List Int) : Int := if 40 < l then 1 else if segsOk l xs then 0 else 2
theorem sgF_zero {l : Nat} {xs : List Int} : sgF l xs = 0 ↔ l ≤ 40 ∧ segsOk l xs := by
  unfold sgF
  by_cases h : 40 < l
  · rw [if_pos h]; omega
  · rw [if_neg h]
    by_cases h2 : segsOk l xs
    · rw [if_pos h2]; simp [h2]; omega
    · rw [if_neg h2]; simp [h2]
theorem all_step {P : Nat → Prop} {i : Nat} (h : ∀ k, k < i → P k) (hi : P i) : ∀ k, k < i + 1 → P k := fun k hk => by
  rcases Nat.lt_or_ge k i with h1 | h1
  · exact h k h1
  · obtain rfl : k = i := by omega
    exact hi
end Go.Proofs.Ytdanhdbanfpghaa.Fw
set_option linter.unusedVariables false
set_option linter.unusedSimpArgs false
namespace Go.Proofs.Ytdanhdbanfpghaa.Fw
abbrev onAt (xs : List Int) (i : Nat) (x y u : Int) : Prop := onV (xs.getD (i * 4) 0) (xs.getD (i * 4 + 1) 0) (xs.getD (i * 4 + 2) 0) (xs.getD (i * 4 + 3) 0) x y u
def hitL (l : Nat) (xs : List Int) (x y u : Int) : List Int := match l with
  | 0 => []
  | i + 1 => hitL i xs x y u ++ (if onAt xs i x y u then [(i : Int)] else [])
theorem hitL_t {i : Nat} {xs : List Int} {x y u : Int} (h : onAt xs i x y u) : hitL i xs x y u ++ [(i : Int)] = hitL (i + 1) xs x y u := by
  show _ = hitL i xs x y u ++ (if onAt xs i x y u then [(i : Int)] else [])
  rw [if_pos h]
theorem hitL_f {i : Nat} {xs : List Int} {x y u : Int} (h : ¬ onAt xs i x y u) : hitL i xs x y u = hitL (i + 1) xs x y u := by
  show _ = hitL i xs x y u ++ (if onAt xs i x y u then [(i : Int)] else [])
  rw [if_neg h, List.append_nil]
theorem hitL_len (i : Nat) (xs : List Int) (x y u : Int) : (hitL i xs x y u).length ≤ i := by
  induction i with
  | zero => exact Nat.le_refl _
  | succ i ih =>
    show (hitL i xs x y u ++ (if onAt xs i x y u then [(i : Int)] else [])).length ≤ i + 1
    rw [List.length_append]
    split <;> simp <;> omega
def hitS (l : Nat) (xs : List Int) (x y u : Int) : Prop := (l ≤ 40 ∧ segsOk l xs) ∧ pOk x y u
instance (l : Nat) (xs : List Int) (x y u : Int) : Decidable (hitS l xs x y u) := by unfold hitS; infer_instance
def hitR (l : Nat) (xs : List Int) (x y u : Int) : List Int := if hitS l xs x y u then hitL l xs x y u else []
theorem hitR_len (l : Nat) (xs : List Int) (x y u : Int) : (hitR l xs x y u).length ≤ l := by
  unfold hitR; split
  · exact hitL_len ..
  · simp
theorem hitR_t {l : Nat} {xs : List Int} {x y u : Int} (h : hitS l xs x y u) : hitR l xs x y u = hitL l xs x y u := if_pos h
theorem hitR_f {l : Nat} {xs : List Int} {x y u : Int} (h : ¬ hitS l xs x y u) : hitR l xs x y u = [] := if_neg h
def mkL (k : Int) (n : Nat) : List Int := (List.range n).map fun (i : Nat) => k + (i : Int)
theorem mkL_len (k : Int) (n : Nat) : (mkL k n).length = n := by simp [mkL]
theorem mkL_getD {k : Int} {n i : Nat} (h : i < n) : (mkL k n).getD i 0 = k + i := by simp [mkL, List.getD_eq_getElem?_getD, h]
theorem mkL_step {M : List Int} {k : Int} {n i : Nat} (h : M.take i = (mkL k n).take i) (hl : M.length = n) (hi : i < n) : (M.set i (k + i)).take (i + 1) = (mkL k n).take (i + 1) := by
  have hs : (M.set i (k + i)).take i = (mkL k n).take i := by rw [List.take_set, List.set_eq_of_length_le (by simp; omega), h]
  refine take_eq1 hs (by simp; omega) (by simp [mkL_len]; omega) ?_
  rw [mkL_getD hi]
  simp [List.getD_eq_getElem?_getD, hl, hi]
end Go.Proofs.Ytdanhdbanfpghaa.Fw
