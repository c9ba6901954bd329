/- Walks and plain mathematics, packed by a program of this session: declarations that the rows reach. -/
import Derived.Deep.Slices
import Derived.Test.YtmbpomcbdopgnaaPvb
set_option linter.unusedVariables false
set_option linter.unusedSimpArgs false
namespace Go.Proofs.Ytmbpomcbdopgnaa.Fw
def spotOk (x y : Int) : Prop := (-1000000 ≤ x ∧ x ≤ 1000000) ∧ -1000000 ≤ y ∧ y ≤ 1000000
instance (x y : Int) : Decidable (spotOk x y) := by unfold spotOk; infer_instance
def spotLt (ax ay bx b_y : Int) : Prop := ax < bx ∨ (ax = bx ∧ ay < b_y)
instance (ax ay bx b_y : Int) : Decidable (spotLt ax ay bx b_y) := by unfold spotLt; infer_instance
def cmpS (ax ay bx b_y : Int) : Int := if ax = bx ∧ ay = b_y then 0 else if spotLt ax ay bx b_y then -1 else 1
theorem cmpS_neg {ax ay bx b_y : Int} : cmpS ax ay bx b_y < 0 ↔ spotLt ax ay bx b_y := by
  unfold cmpS
  by_cases h0 : ax = bx ∧ ay = b_y
  · rw [if_pos h0]; unfold spotLt; omega
  · rw [if_neg h0]
    by_cases h : spotLt ax ay bx b_y
    · rw [if_pos h]; simp [h]
    · rw [if_neg h]; simp [h]
def segOk (ax ay bx b_y : Int) : Prop := spotOk ax ay ∧ spotOk bx b_y ∧ spotLt ax ay bx b_y
instance (ax ay bx b_y : Int) : Decidable (segOk ax ay bx b_y) := by unfold segOk; infer_instance
theorem segOk_rg {ax ay bx b_y : Int} (h : segOk ax ay bx b_y) : (-1000000 ≤ ax ∧ ax ≤ 1000000) ∧ (-1000000 ≤ ay ∧ ay ≤ 1000000) ∧ (-1000000 ≤ bx ∧ bx ≤ 1000000) ∧ (-1000000 ≤ b_y ∧ b_y ≤ 1000000) := by
  obtain ⟨⟨h1, h2⟩, ⟨h3, h4⟩, _⟩ := h; exact ⟨h1, h2, h3, h4⟩
def onV (ax ay bx b_y x y u : Int) : Prop := pc ax ay 1 x y u ≤ 0 ∧ pc x y u bx b_y 1 ≤ 0 ∧ sideV ax ay bx b_y x y u = 0
instance (ax ay bx b_y x y u : Int) : Decidable (onV ax ay bx b_y x y u) := by unfold onV; infer_instance
end Go.Proofs.Ytmbpomcbdopgnaa.Fw
namespace Go.Proofs.Ytmbpomcbdopgnaa.Fw
open Go Go.RowKit
def Rd (w : World) (A : Option Addr) (vs : List Value) : Prop :=
  vs = [] ∨ ∃ (g off T : Nat) (cs : Array Value) (fz : Nat × Nat), A = some ⟨g, off, none⟩ ∧ w.heap[g]? = some (.cells cs T fz) ∧ ∀ i x, vs[i]? = some x → cs[off + i]? = some x
theorem Rd.ext {w w' : World} {A : Option Addr} {vs : List Value} (h : Rd w A vs) (e : Ext w w') : Rd w' A vs := by
  rcases h with h | ⟨g, off, T, cs, fz, hA, hg, hc⟩
  · exact .inl h
  · exact .inr ⟨g, off, T, cs, fz, hA, e.blk hg, hc⟩
theorem Rd.at {w : World} {A : Option Addr} {vs : List Value} (h : Rd w A vs) (hp : 0 < vs.length) : ∃ g off, A = some ⟨g, off, none⟩ := by
  rcases h with h | ⟨g, off, T, cs, fz, hA, hg, hc⟩
  · rw [h] at hp; simp at hp
  · exact ⟨g, off, hA⟩
theorem Rd.cell {w : World} {g off i : Nat} {vs : List Value} {v : Value} (h : Rd w (some ⟨g, off, none⟩) vs) (hi : vs[i]? = some v) : w.cell? ⟨g, off + i, none⟩ = some v := by
  rcases h with h | ⟨g', off', T, cs, fz, hA, hg, hc⟩
  · rw [h] at hi; cases hi
  · obtain ⟨rfl, rfl⟩ : g = g' ∧ off = off' := by simpa using hA
    rw [cell_of_row w g (off + i) cs T fz hg]
    exact hc i v hi
def RdI (w : World) (k : IntKind) (A : Option Addr) (L : List Int) : Prop := Rd w A (L.map (Value.int k))
theorem RdI.ext {w w' : World} {k : IntKind} {A : Option Addr} {L : List Int} (h : RdI w k A L) (e : Ext w w') : RdI w' k A L := Rd.ext h e
theorem RdI.at {w : World} {k : IntKind} {A : Option Addr} {L : List Int} (h : RdI w k A L) (hp : 0 < L.length) : ∃ g off, A = some ⟨g, off, none⟩ := Rd.at h (by simpa using hp)
theorem RdI.cell {w : World} {k : IntKind} {g off i : Nat} {L : List Int} (h : RdI w k (some ⟨g, off, none⟩) L) (hi : i < L.length) : w.cell? ⟨g, off + i, none⟩ = some (.int k (L.getD i 0)) :=
  Rd.cell h (by simp [List.getElem?_map, hi, List.getD_eq_getElem?_getD])
theorem Wd.rdI {w : World} {T : Nat} {k : IntKind} {A : Option Addr} {L : List Int} (h : Wd w T k A L) : RdI w k A L := by
  rcases h with ⟨h1, h2⟩ | ⟨g, off, cs, fz, hA, hg, hc⟩
  · exact .inl (by rw [h1]; rfl)
  · refine .inr ⟨g, off, T, cs, fz, hA, hg, fun i x hi => ?_⟩
    rw [List.getElem?_map] at hi
    cases hL : L[i]? with
    | none => rw [hL] at hi; cases hi
    | some y =>
      rw [hL] at hi
      have e : x = .int k y := by simpa using hi.symm
      rw [e]; exact hc i y hL
theorem addr_addn {g off m : Nat} : (⟨g, off, none⟩ : Addr).add m = ⟨g, off + m, none⟩ := by unfold Addr.add; split <;> simp_all
section
variable {P : Program} {n : Nat} {fr : Fr} {w : World} {ty : TypeId}
theorem dv_indexM {t e : TypeId} {x y : Operand} {g o l c i m : Nat} {k : IntKind} {j : Int} (ht : P.underlying t = some (.slice e)) (hs : sizeB P e = some m)
    (hx : EV n fr x (.slice (some ⟨g, o, none⟩) l c)) (hy : EV n fr y (.int k j)) (hj : j = (i : Nat)) (hl : i < l) : DV P n (.indexAddr t x y) ty fr w (.pointer (some ⟨g, o + i * m, none⟩)) :=
  dv_indexAddr ht hs hx hy (by omega) (by omega) (by subst hj; exact addr_addn)
theorem dv_indexOM {t e : TypeId} {x y : Operand} {g l c i m : Nat} {k : IntKind} {j : Int} (ht : P.underlying t = some (.slice e)) (hs : sizeB P e = some m)
    (hx : EV n fr x (.slice (some ⟨g, 0, none⟩) l c)) (hy : EV n fr y (.int k j)) (hj : j = (i : Nat)) (hl : i < l) : DV P n (.indexAddr t x y) ty fr w (.pointer (some ⟨g, i * m, none⟩)) :=
  dv_indexAddr ht hs hx hy (by omega) (by omega) (by subst hj; rw [addr_addn, Nat.zero_add]; rfl)
theorem dv_fieldW {s i : Nat} {x : Operand} {g o off j : Nat} (hf : fieldOffB P s j = some off) (hx : EV n fr x (.pointer (some ⟨g, o + i, none⟩))) :
    DV P n (.fieldAddr s x j) ty fr w (.pointer (some ⟨g, o + (i + off), none⟩)) := dv_fieldAddr hf hx (by rw [addr_addn, Nat.add_assoc])
theorem dv_fieldO {s i : Nat} {x : Operand} {g off j : Nat} (hf : fieldOffB P s j = some off) (hx : EV n fr x (.pointer (some ⟨g, i, none⟩))) :
    DV P n (.fieldAddr s x j) ty fr w (.pointer (some ⟨g, i + off, none⟩)) := dv_fieldAddr hf hx addr_addn
theorem loadVar_at {t : TypeId} {g o m : Nat} {l : List Value} (ht : aggB P t = some true) (hs : sizeB P t = some m) (hl : l.length = m)
    (hc : ∀ j v, l[j]? = some v → w.cell? ⟨g, o + j, none⟩ = some v) : (loadVar t ⟨g, o, none⟩).run P w = .ok (.agg l.toArray) w := by
  have hld : (loadCells ⟨g, o, none⟩ l.length).run P w = .ok l.toArray w := by
    refine run_loadCells_list _ _ l fun j v hj => ?_
    rw [addr_addn]
    exact hc j v hj
  rw [hl] at hld
  simp [loadVar, run_isAgg ht, run_sizeOf hs, hld]
theorem dv_loadsR {t : TypeId} {x : Operand} {g o m : Nat} {l : List Value} (ht : aggB P t = some true) (hs : sizeB P t = some m) (hx : EV n fr x (.pointer (some ⟨g, o, none⟩))) (hl : l.length = m)
    (hc : ∀ j v, l[j]? = some v → w.cell? ⟨g, o + j, none⟩ = some v) : DV P n (.load t x) ty fr w (.agg l.toArray) := fun _ _ _ _ => by
  unfold EV at hx
  have := loadVar_at (w := w) ht hs hl hc
  simp [execOp, hx, Instr.loadAt, Instr.sureAddr, this]
def getM (k : IntKind) (L : List Int) (i m : Nat) : List Value := (List.range m).map fun j => Value.int k (L.getD (i + j) 0)
theorem getM_get {k : IntKind} {L : List Int} {i m j : Nat} {v : Value} (h : (getM k L i m)[j]? = some v) : j < m ∧ v = .int k (L.getD (i + j) 0) := by
  unfold getM at h
  have hj := (List.getElem?_eq_some_iff.1 h).1
  simp only [List.length_map, List.length_range] at hj
  rw [List.getElem?_map, List.getElem?_range hj] at h
  exact ⟨hj, by simpa using h.symm⟩
theorem dv_loadsI {t : TypeId} {x : Operand} {g o i m : Nat} {k : IntKind} {L : List Int} {l : List Value} (ht : aggB P t = some true) (hs : sizeB P t = some m) (hx : EV n fr x (.pointer (some ⟨g, o + i, none⟩)))
    (hR : RdI w k (some ⟨g, o, none⟩) L) (hi : i + m ≤ L.length) (hl : getM k L i m = l) : DV P n (.load t x) ty fr w (.agg l.toArray) := by
  subst hl
  refine dv_loadsR ht hs hx (by simp [getM]) fun j v hj => ?_
  obtain ⟨hjm, rfl⟩ := getM_get hj
  rw [Nat.add_assoc]
  exact hR.cell (by omega)
def setM (L : List Int) : Nat → List Int → List Int
  | _, [] => L
  | i, x :: xs => setM (L.set i x) (i + 1) xs
theorem setM_len : ∀ (xs : List Int) (L : List Int) (i : Nat), (setM L i xs).length = L.length
  | [], _, _ => rfl
  | x :: xs, L, i => by simp [setM, setM_len xs]
theorem setM_take2 : ∀ (xs : List Int) (L : List Int) (i : Nat), i + xs.length ≤ L.length → (setM L i xs).take (i + xs.length) = L.take i ++ xs
  | [], L, i, _ => by simp [setM]
  | x :: xs, L, i, h => by
    have hl : i < L.length := by simp at h; omega
    have := setM_take2 xs (L.set i x) (i + 1) (by simp at h ⊢; omega)
    show (setM (L.set i x) (i + 1) xs).take (i + (xs.length + 1)) = _
    rw [show i + (xs.length + 1) = i + 1 + xs.length by omega, this, List.take_set, List.take_succ_eq_append_getElem hl]
    rw [List.set_append_right _ _ (by simp; omega)]
    simp [Nat.min_eq_left (Nat.le_of_lt hl)]
theorem stC_setM {k : IntKind} : ∀ (xs : List Int) (L : List Int) (i : Nat), i + xs.length ≤ L.length → stC (L.map (Value.int k)) i (xs.map (Value.int k)) = some ((setM L i xs).map (Value.int k))
  | [], L, i, _ => by rw [List.map_nil, stC_nil]; rfl
  | x :: xs, L, i, h => by
    have hm := stC_mid i (L.map (Value.int k)) ((x :: xs).map (Value.int k)) (by simpa using h)
    rw [hm]
    congr 1
    have h2 := setM_take2 (x :: xs) L i h
    have h3 : (setM L i (x :: xs)).drop (i + (x :: xs).length) = L.drop (i + (x :: xs).length) := by
      clear hm h2
      generalize x :: xs = ys at h ⊢
      induction ys generalizing L i with
      | nil => rfl
      | cons y ys ih =>
        have := ih (L.set i y) (i + 1) (by simp at h ⊢; omega)
        show (setM (L.set i y) (i + 1) ys).drop (i + (ys.length + 1)) = _
        rw [show i + (ys.length + 1) = i + 1 + ys.length by omega, this]
        rw [List.drop_set, if_pos (by omega)]
        congr 1
        simp
        omega
    have h4 := (List.take_append_drop (i + (x :: xs).length) (setM L i (x :: xs)))
    rw [h2, h3] at h4
    rw [← h4]
    simp [List.map_append, List.map_take, List.map_drop]
theorem oe_storeM {t : TypeId} {x y : Operand} {b T i m : Nat} {k : IntKind} {L : List Int} {zs : List Int} {v : Value} {K : Value → World → Prop} (hs : sizeB P t = some m) (hx : EV n fr x (.pointer (some ⟨b, i, none⟩))) (hy : EV n fr y v)
    (hv : v.cells = (zs.map (Value.int k)).toArray) (hm : zs.length = m) (hb : w.heap[b]? = some (.cells (L.map (Value.int k)).toArray T)) (hi : i + m ≤ L.length)
    (h : ∀ w', St b w w' → w'.heap[b]? = some (.cells ((setM L i zs).map (Value.int k)).toArray T) → K undef w') : OE P n (.store t x y) ty fr w K :=
  oe_store hx hy hs hv (by simpa using hm) (by
    rw [List.all_eq_true]; intro u hu
    obtain ⟨z, _, rfl⟩ := List.mem_map.1 hu
    rfl) hb (stC_setM zs L i (by omega)) h
theorem set_inv {M xs zs : List Int} {i m : Nat} (hM : M.take i = xs.take i) (hl : i + m ≤ M.length) (hx : i + m ≤ xs.length) (hz : zs = (List.range m).map fun j => xs.getD (i + j) 0) : (setM M i zs).take (i + m) = xs.take (i + m) := by
  have hzl : zs.length = m := by rw [hz]; simp
  have h := setM_take2 zs M i (by omega)
  rw [hzl] at h
  rw [h, hM, List.take_add, hz]
  congr 1
  apply List.ext_getElem (by simp; omega)
  intro j h1 h2
  simp at h1 h2
  simp [List.getD_eq_getElem?_getD, show i + j < xs.length by omega]
theorem oe_makeM {t e : TypeId} {x y : Operand} {kl kc k : IntKind} {l m bytes : Nat} {j : Int} {z : Value} {K : Value → World → Prop} (ht : P.underlying t = some (.slice e))
    (hi : (P.info? e).map (fun i => (i.zero, i.size, i.bytes)) = some (some z, m, bytes)) (hz : z.cells = (List.replicate m (Value.int k 0)).toArray) (hm : 0 < m) (hx : EV n fr x (.int kl j)) (hy : EV n fr y (.int kc j)) (hj : j = (l : Nat)) (hb : bytes * l ≤ 281474976710656) (hl : l ≤ 281474976710656)
    (h : ∀ b w', New w b (.cells ((List.replicate (l * m) (0 : Int)).map (Value.int k)).toArray e) w' → K (.slice (some ⟨b, 0, none⟩) l l) w') : OE P n (.makeSlice t x y) ty fr w K := by
  subst hj
  cases hin : P.info? e with
  | none => simp [hin] at hi
  | some inf =>
    simp only [hin, Option.map_some, Option.some.injEq, Prod.mk.injEq] at hi
    obtain ⟨h1, h2, h3⟩ := hi
    subst h3
    have hb' : (inf.bytes : Int) * (l : Int) ≤ 281474976710656 := by
      have h : ((inf.bytes * l : Nat) : Int) ≤ 281474976710656 := by omega
      rwa [Int.natCast_mul] at h
    have hr := run_make (P := P) w t e inf z ht hin h1 kl kc l l (by omega) (Int.le_refl _) hb' (by omega)
    simp only [Int.toNat_natCast, h2, hz] at hr
    have hmc : madeCells (List.replicate m (Value.int k 0)).toArray (l * m) = ((List.replicate (l * m) (0 : Int)).map (Value.int k)).toArray := by
      unfold madeCells
      apply Array.ext_getElem?
      intro i
      by_cases hlt : i < l * m
      · have hmod : i % m < m := Nat.mod_lt _ hm
        simp [hlt, hmod]
      · simp [hlt, Nat.le_of_not_lt hlt]
    rw [hmc] at hr
    refine OE.of_run (fun _ _ _ _ => ?_) (h _ _ (new_alloc w _))
    unfold EV at hx hy
    simp [execOp, hx, hy, hr]
end
def flatFs (P : Program) (g : TypeId → Option (List TypeId)) : Nat → List Field → Option (List TypeId)
  | _, [] => some []
  | o, f :: fs => match g f.type with
    | some l => if f.offset = o ∧ P.cellsOf f.type = l.length then (flatFs P g (o + l.length) fs).map (l ++ ·) else none
    | none => none
def flatC (P : Program) : Nat → TypeId → Option (List TypeId)
  | 0, _ => none
  | d + 1, t => match P.underlying t with
    | some (.struct fs) => (flatFs P (flatC P d) 0 fs.toList).bind fun l => if P.cellsOf t = l.length then some l else none
    | some (.int _) => if P.cellsOf t = 1 then some [t] else none
    | some (.slice _) => if P.cellsOf t = 1 then some [t] else none
    | _ => none
def isIntK (P : Program) (k : IntKind) (u : TypeId) : Bool := match P.underlying u with
  | some (.int k') => decide (k' = k)
  | _ => false
theorem isIntK_spec {P : Program} {k : IntKind} {u : TypeId} (h : isIntK P k u = true) : P.underlying u = some (.int k) := by
  unfold isIntK at h
  split at h
  · rename_i k' hk; rw [hk]; simp at h; rw [h]
  · cases h
section
variable {H : Type} {enc : TypeId × Value → H} {P : Program} {w : World} {base : Nat} {spare : Nat → Bool} {held : Bool}
theorem flatFs_get {g : TypeId → Option (List TypeId)} {cs : List Value} {n : Nat} (hg : ∀ (t : TypeId) (us : List TypeId) (m : Nat) (fs' : List Nat) (cs' : List Value) (x : DataW H × List MemPlace), g t = some us → DataW.trod enc P w base spare held m t cs' = some x → cs'.length = us.length ∧ ∀ (j : Nat) (u : TypeId), us[j]? = some u → ∃ v m' y, cs'[j]? = some v ∧ DataW.trod enc P w base spare held m' u [v] = some y) :
    ∀ (fs : List Field) (o : Nat) (l : List TypeId), flatFs P g o fs = some l → (∀ f ∈ fs, ∃ y, DataW.trod enc P w base spare held n f.type ((cs.drop f.offset).take (P.cellsOf f.type)) = some y) →
      ∀ j u, l[j]? = some u → ∃ v m y, cs[o + j]? = some v ∧ DataW.trod enc P w base spare held m u [v] = some y := by
  intro fs
  induction fs with
  | nil => intro o l hl _ j u hj; simp [flatFs] at hl; subst hl; simp at hj
  | cons f fs ih =>
    intro o l hl hf j u hj
    simp only [flatFs] at hl
    cases hgf : g f.type with
    | none => rw [hgf] at hl; cases hl
    | some us =>
      rw [hgf] at hl
      simp only at hl
      by_cases hc : f.offset = o ∧ P.cellsOf f.type = us.length
      · rw [if_pos hc] at hl
        obtain ⟨l', hl', rfl⟩ := Option.map_eq_some_iff.1 hl
        obtain ⟨y, hy⟩ := hf f (List.mem_cons_self ..)
        obtain ⟨h1, h2⟩ := hg f.type us n [] _ y hgf hy
        by_cases hj' : j < us.length
        · rw [List.getElem?_append_left hj'] at hj
          obtain ⟨v, m, y', h3, h4⟩ := h2 j u hj
          refine ⟨v, m, y', ?_, h4⟩
          rw [List.getElem?_take_of_lt (by omega), List.getElem?_drop, hc.1] at h3
          exact h3
        · rw [List.getElem?_append_right (by omega)] at hj
          obtain ⟨v, m, y', h3, h4⟩ := ih (o + us.length) l' hl' (fun f' hf' => hf f' (List.mem_cons_of_mem _ hf')) (j - us.length) u hj
          refine ⟨v, m, y', ?_, h4⟩
          rw [← h3]; congr 1; omega
      · rw [if_neg hc] at hl; cases hl
theorem trod_flat : ∀ (d : Nat) (t : TypeId) (us : List TypeId) (m : Nat) (fs' : List Nat) (cs : List Value) (x : DataW H × List MemPlace), flatC P d t = some us → DataW.trod enc P w base spare held m t cs = some x →
    cs.length = us.length ∧ ∀ (j : Nat) (u : TypeId), us[j]? = some u → ∃ v m' y, cs[j]? = some v ∧ DataW.trod enc P w base spare held m' u [v] = some y := by
  intro d
  induction d with
  | zero => intro t us m _ cs x h; cases h
  | succ d ih =>
    intro t us m _ cs x h hx
    simp only [flatC] at h
    cases hu : P.underlying t with
    | none => rw [hu] at h; cases h
    | some td =>
      rw [hu] at h
      have one : ∀ (hh : (if P.cellsOf t = 1 then some [t] else none) = some us), (∃ v, cs = [v]) → cs.length = us.length ∧ ∀ (j : Nat) (u : TypeId), us[j]? = some u → ∃ v m' y, cs[j]? = some v ∧ DataW.trod enc P w base spare held m' u [v] = some y := by
        intro hh ⟨v, hv⟩
        by_cases hc : P.cellsOf t = 1
        · rw [if_pos hc] at hh
          obtain rfl : [t] = us := by simpa using hh
          subst hv
          refine ⟨rfl, fun j u hj => ?_⟩
          have hj0 : j = 0 := by
            have := (List.getElem?_eq_some_iff.1 hj).1
            simp at this; exact this
          subst hj0
          obtain rfl : t = u := by simpa using hj
          exact ⟨v, m, x, rfl, hx⟩
        · rw [if_neg hc] at hh; cases hh
      cases td with
      | struct fs =>
        simp only at h
        obtain ⟨l, hl, hif⟩ := Option.bind_eq_some_iff.1 h
        by_cases hc : P.cellsOf t = l.length
        · rw [if_pos hc] at hif
          obtain rfl : l = us := by simpa using hif
          obtain ⟨xs, n, _, _, hlen, hxl, hf⟩ := DataW.trod_struct hu hx
          refine ⟨by rw [hlen, hc], fun j u hj => ?_⟩
          have := flatFs_get (enc := enc) (w := w) (base := base) (spare := spare) (held := held) (cs := cs) (n := n) (g := flatC P d) (fun t us m fs' cs' x h1 h2 => ih t us m [] cs' x h1 h2) fs.toList 0 l hl (fun f hfm => by
            obtain ⟨i, hi, he⟩ := List.getElem_of_mem hfm
            have hi' : i < fs.size := by simpa using hi
            have h5 := hf i f (by rw [Array.getElem?_eq_getElem hi']; exact congrArg some (by simpa using he))
            exact ⟨xs[i]'(by omega), by rw [h5]; exact List.getElem?_eq_getElem _⟩) j u hj
          rwa [Nat.zero_add] at this
        · rw [if_neg hc] at hif; cases hif
      | int k =>
        refine one h ?_
        obtain ⟨x', h1, _⟩ := DataW.trod_int hu hx
        exact ⟨_, h1⟩
      | slice e =>
        refine one h ?_
        rcases DataW.trod_slice hu hx with ⟨h1, _⟩ | ⟨a, len, cap, elems, rest, n, _, h1, _⟩
        · exact ⟨_, h1⟩
        · exact ⟨_, h1⟩
      | _ => cases h
theorem open_ints {t e : TypeId} {fuel m d : Nat} {k : IntKind} {us : List TypeId} {v : Value} {x : DataW H × List MemPlace} (ht : P.underlying t = some (.slice e)) (hf : flatC P d e = some us) (hm : us.length = m) (hm0 : 0 < m) (hC : P.cellsOf e = m)
    (hk : us.all (fun u => isIntK P k u) = true) (h : DataW.trod enc P w base spare held fuel t [v] = some x) :
    ∃ (A : Option Addr) (l c : Nat) (L : List Int), v = .slice A l c ∧ l ≤ c ∧ c ≤ maxLen ∧ L.length = l * m ∧ RdI w k A L ∧ ∀ y ∈ L, k.has y := by
  rcases Go.Deep.open_slice ht h with ⟨h1, h2⟩ | ⟨a, len, cap, mm, nn, D, Pl, h1, hb, hl, hcap, hmm, hx, hi⟩
  · obtain rfl : v = .slice none 0 0 := by simpa using h1
    exact ⟨none, 0, 0, [], rfl, Nat.le_refl _, Nat.zero_le _, by simp, .inl rfl, fun y hy => by cases hy⟩
  · obtain rfl : v = .slice (some a) len cap := by simpa using h1
    have hlm : len ≤ mm := by rw [hmm]; split <;> omega
    have cell : ∀ i j, i < len → j < m → ∃ z : Int, w.cell? (a.add (i * m + j)) = some (.int k z) ∧ k.has z := by
      intro i j hil hjm
      obtain ⟨cs', hcs, htr⟩ := hi i (by omega)
      rw [hC] at hcs
      obtain ⟨h3, h4⟩ := trod_flat d e us nn [] cs' _ hf htr
      obtain ⟨_, hcl, hat⟩ := World.cells?_some hcs
      obtain ⟨u, hu⟩ : ∃ u, us[j]? = some u := ⟨us[j]'(by omega), List.getElem?_eq_getElem _⟩
      obtain ⟨v', m', y, h5, h6⟩ := h4 j u hu
      have hku : P.underlying u = some (.int k) := by
        exact isIntK_spec (List.all_eq_true.1 hk u (List.mem_of_getElem? hu))
      obtain ⟨z, h7, h8, h9⟩ := DataW.trod_int hku h6
      refine ⟨z, ?_, ?_⟩
      · have h10 := hat j (by omega)
        rw [h5] at h10
        obtain rfl : v' = .int k z := by simpa using h7
        rw [← Go.Deep.add_add]
        exact h10
      · simp only [Lit.wf, Bool.and_eq_true, decide_eq_true_eq] at h9
        exact h9
    refine ⟨some a, len, cap, (List.range (len * m)).map (fun i => match w.cell? (a.add i) with | some (.int _ z) => z | _ => 0), rfl, hl, hcap, by simp, ?_, ?_⟩
    · by_cases h0 : len * m = 0
      · left; rw [h0]; rfl
      · have hlp : 0 < len := Nat.pos_of_ne_zero fun hz => h0 (by rw [hz, Nat.zero_mul])
        obtain ⟨z0, hz0, _⟩ := cell 0 0 hlp hm0
        rw [Nat.zero_mul] at hz0
        have hz0' : w.cell? a = some (.int k z0) := hz0
        obtain ⟨g, off, spot⟩ := a
        unfold World.cell? at hz0'
        simp only at hz0'
        cases hg : w.heap[g]? with
        | none => rw [hg] at hz0'; cases hz0'
        | some ob =>
          rw [hg] at hz0'
          cases ob with
          | cells cs T fz =>
            simp only at hz0'
            cases spot with
            | some s => simp at hz0'
            | none =>
              refine .inr ⟨g, off, T, cs, fz, rfl, hg, fun i x hx => ?_⟩
              have hil : i < len * m := by have := (List.getElem?_eq_some_iff.1 hx).1; simpa using this
              obtain ⟨z, hz, _⟩ := cell (i / m) (i % m) ((Nat.div_lt_iff_lt_mul hm0).2 hil) (Nat.mod_lt _ hm0)
              rw [Nat.div_add_mod' i m] at hz
              simp only [List.getElem?_map, List.getElem?_range hil, Option.map_some, hz, Option.some.injEq] at hx
              subst hx
              rw [addr_addn, cell_of_row w g (off + i) cs T fz hg] at hz
              exact hz
          | _ => cases hz0'
    · intro y hy
      obtain ⟨i, hi', rfl⟩ := List.mem_map.1 hy
      have hil : i < len * m := by simpa using hi'
      obtain ⟨z, hz, hzk⟩ := cell (i / m) (i % m) ((Nat.div_lt_iff_lt_mul hm0).2 hil) (Nat.mod_lt _ hm0)
      rw [Nat.div_add_mod' i m] at hz
      rw [hz]; exact hzk
end
theorem ok_rowI {H : Type} {enc : TypeId × Value → H} {P : Program} {w : World} {r : Reach} {base : Nat} {spare : Nat → Bool} {held : Bool} {t e : TypeId} {m d : Nat} {k : IntKind} {us : List TypeId} {v : Value} {dd : DataW H} {pp : List MemPlace} (ht : P.underlying t = some (.slice e)) (hf : flatC P d e = some us) (hm : us.length = m) (hm0 : 0 < m) (hC : P.cellsOf e = m)
    (hk : us.all (fun u => isIntK P k u) = true) (ho : Value.okWide P w r base t v) (h : DataW.Trod enc P w 0 spare held t v dd pp) :
    ∃ (A : Option Addr) (l c : Nat) (L : List Int), v = .slice A l c ∧ l ≤ c ∧ c ≤ 9223372036854775807 ∧ L.length = l * m ∧ RdI w k A L ∧ ∀ y ∈ L, k.has y := by
  obtain ⟨fuel, hf'⟩ := h
  have hv : v.cells.toList = [v] := by
    unfold Value.okWide at ho
    rw [ht] at ho
    simp only at ho
    unfold Cell.okWide at ho
    rw [ht] at ho
    simp only at ho
    unfold Cell.ok at ho
    rw [ht] at ho
    cases v <;> simp only at ho <;> rfl
  rw [hv] at hf'
  obtain ⟨A, l, c, L, h1, h2, h3, h4⟩ := open_ints ht hf hm hm0 hC hk hf'
  exact ⟨A, l, c, L, h1, h2, by simpa [maxLen] using h3, h4⟩
theorem Ow.mono {w : World} {base base' T c : Nat} {k : IntKind} {A : Option Addr} {L : List Int} (h : Ow w base T k A c L) (hb : base' ≤ base) : Ow w base' T k A c L := by
  obtain ⟨⟨h1, h2⟩, h3⟩ := h
  refine ⟨⟨h1, ?_⟩, Nat.le_trans hb h3⟩
  rcases h2 with h2 | ⟨g, cap, cur, hv, hbg, r⟩
  · exact .inl h2
  · exact .inr ⟨g, cap, cur, hv, Nat.le_trans hb hbg, r⟩
theorem Ow.nil0 {w : World} {base T : Nat} {k : IntKind} (hb : base ≤ w.heap.size) : Ow w base T k none 0 [] := ⟨⟨rfl, .inl ⟨rfl, rfl⟩⟩, hb⟩
theorem Wd.lt {w : World} {T : Nat} {k : IntKind} {A : Option Addr} {xs : List Int} (h : Wd w T k A xs) : ∀ g o, A = some ⟨g, o, none⟩ → g < w.heap.size := by
  intro g o hA
  rcases h with ⟨_, h⟩ | ⟨g', off, cs, fz, hA', hg, _⟩
  · rw [h] at hA; cases hA
  · rw [hA'] at hA
    injection hA with hA
    injection hA with h1 _ _
    rw [← h1]; exact lt_of_blk hg
theorem Wd.bl {w w' : World} {T base : Nat} {k : IntKind} {A : Option Addr} {xs : List Int} (h : Wd w T k A xs) (e : Below base w w') (hlt : ∀ g o, A = some ⟨g, o, none⟩ → g < base) : Wd w' T k A xs := by
  rcases h with h | ⟨g, off, cs, fz, hA, hg, hc⟩
  · exact .inl h
  · exact .inr ⟨g, off, cs, fz, hA, bl_blk e hg (hlt g off hA), hc⟩
theorem Ow.lt {w : World} {base T c : Nat} {k : IntKind} {A : Option Addr} {L : List Int} (h : Ow w base T k A c L) : ∀ g o, A = some ⟨g, o, none⟩ → g < w.heap.size := h.wd.lt
theorem Ow.bl {w w' : World} {base base' T c : Nat} {k : IntKind} {A : Option Addr} {L : List Int} (h : Ow w base T k A c L) (e : Below base' w w') (hlt : ∀ g o, A = some ⟨g, o, none⟩ → g < base') : Ow w' base T k A c L := by
  obtain ⟨⟨h1, h2⟩, h3⟩ := h
  refine ⟨⟨h1, ?_⟩, Nat.le_trans h3 e.size⟩
  rcases h2 with h2 | ⟨g, cap, cur, hv, hbg, hg, r⟩
  · exact .inl h2
  · injection hv with hA _ hc
    exact .inr ⟨g, cap, cur, by rw [hA, hc], hbg, bl_blk e hg (hlt g 0 hA), r⟩
theorem RdI.lt {w : World} {k : IntKind} {A : Option Addr} {L : List Int} (h : RdI w k A L) (hp : 0 < L.length) : ∀ g o, A = some ⟨g, o, none⟩ → g < w.heap.size := by
  intro g o hA
  rcases h with h | ⟨g', off, T, cs, fz, hA', hg, _⟩
  · have := congrArg List.length h; simp at this; subst this; simp at hp
  · rw [hA'] at hA
    injection hA with hA
    injection hA with h1 _ _
    rw [← h1]; exact lt_of_blk hg
end Go.Proofs.Ytmbpomcbdopgnaa.Fw
namespace Go.Proofs.Ytmbpomcbdopgnaa.Fw
def szV (l : Nat) (n : Int) : Int := if n - l < 0 then -1 else n - l
theorem szV_rg {l : Nat} {n : Int} (h : ¬ szV l n < 0) : (l : Int) ≤ n := by
  unfold szV at h; split at h <;> omega
theorem take_eq {xs ys : List Int} {i m : Nat} (h : xs.take i = ys.take i) (hx : i + m ≤ xs.length) (hy : i + m ≤ ys.length) (hj : ∀ j, j < m → xs.getD (i + j) 0 = ys.getD (i + j) 0) : xs.take (i + m) = ys.take (i + m) := by
  rw [List.take_add, List.take_add, h]
  congr 1
  apply List.ext_getElem (by simp; omega)
  intro j h1 h2
  simp at h1 h2
  have := hj j (by omega)
  simpa [List.getD_eq_getElem?_getD, show i + j < xs.length by omega, show i + j < ys.length by omega] using this
theorem take_eq1 {xs ys : List Int} {i : Nat} (h : xs.take i = ys.take i) (hx : i + 1 ≤ xs.length) (hy : i + 1 ≤ ys.length) (h0 : xs.getD i 0 = ys.getD i 0) : xs.take (i + 1) = ys.take (i + 1) :=
  take_eq h hx hy fun j hj => by obtain rfl : j = 0 := by omega
                                 exact h0
theorem take_eq4 {xs ys : List Int} {i : Nat} (h : xs.take i = ys.take i) (hx : i + 4 ≤ xs.length) (hy : i + 4 ≤ ys.length) (h0 : xs.getD i 0 = ys.getD i 0) (h1 : xs.getD (i + 1) 0 = ys.getD (i + 1) 0) (h2 : xs.getD (i + 2) 0 = ys.getD (i + 2) 0) (h3 : xs.getD (i + 3) 0 = ys.getD (i + 3) 0) : xs.take (i + 4) = ys.take (i + 4) :=
  take_eq h hx hy fun j hj => by
    rcases (show j = 0 ∨ j = 1 ∨ j = 2 ∨ j = 3 by omega) with rfl | rfl | rfl | rfl
    · exact h0
    · exact h1
    · exact h2
    · exact h3
theorem take_all {xs ys : List Int} {i : Nat} (h : xs.take i = ys.take i) (hx : xs.length ≤ i) (hy : ys.length ≤ i) : xs = ys := by
  rwa [List.take_of_length_le hx, List.take_of_length_le hy] at h
abbrev segAt (xs : List Int) (i : Nat) : Prop := segOk (xs.getD (i * 4) 0) (xs.getD (i * 4 + 1) 0) (xs.getD (i * 4 + 2) 0) (xs.getD (i * 4 + 3) 0)
def segsOk (l : Nat) (xs : List Int) : Prop := ∀ k, k < l → segAt xs k
instance (l : Nat) (xs : List Int) : Decidable (segsOk l xs) := by unfold segsOk; infer_instance
def sgF (l : Nat) (xs : List Int) : Int := if 40 < l then 1 else if segsOk l xs then 0 else 2
theorem sgF_zero {l : Nat} {xs : List Int} : sgF l xs = 0 ↔ l ≤ 40 ∧ segsOk l xs := by
  unfold sgF
  by_cases h : 40 < l
  · rw [if_pos h]; omega
  · rw [if_neg h]
    by_cases h2 : segsOk l xs
    · rw [if_pos h2]; simp [h2]; omega
    · rw [if_neg h2]; simp [h2]
theorem all_step {P : Nat → Prop} {i : Nat} (h : ∀ k, k < i → P k) (hi : P i) : ∀ k, k < i + 1 → P k := fun k hk => by
  rcases Nat.lt_or_ge k i with h1 | h1
  · exact h k h1
  · obtain rfl : k = i := by omega
    exact hi
def hitS (l : Nat) (xs : List Int) (x y u : Int) : Prop := (l ≤ 40 ∧ segsOk l xs) ∧ pOk x y u
instance (l : Nat) (xs : List Int) (x y u : Int) : Decidable (hitS l xs x y u) := by unfold hitS; infer_instance
def mkL (k : Int) (n : Nat) : List Int := (List.range n).map fun (i : Nat) => k + (i : Int)
theorem mkL_len (k : Int) (n : Nat) : (mkL k n).length = n := by simp [mkL]
theorem mkL_getD {k : Int} {n i : Nat} (h : i < n) : (mkL k n).getD i 0 = k + i := by simp [mkL, List.getD_eq_getElem?_getD, h]
theorem mkL_step {M : List Int} {k : Int} {n i : Nat} (h : M.take i = (mkL k n).take i) (hl : M.length = n) (hi : i < n) : (M.set i (k + i)).take (i + 1) = (mkL k n).take (i + 1) := by
  have hs : (M.set i (k + i)).take i = (mkL k n).take i := by rw [List.take_set, List.set_eq_of_length_le (by simp; omega), h]
  refine take_eq1 hs (by simp; omega) (by simp [mkL_len]; omega) ?_
  rw [mkL_getD hi]
  simp [List.getD_eq_getElem?_getD, hl, hi]
abbrev gF (L : List Int) : Nat → Int := fun k => L.getD k 0
structure TO (V : Int → Prop) (cf : Int → Int → Int) : Prop where
  asym : ∀ x y, V x → V y → cf x y < 0 → ¬ cf y x < 0
  trans : ∀ x y z, V x → V y → V z → cf x y < 0 → cf y z < 0 → cf x z < 0
  tot : ∀ x y, V x → V y → x ≠ y → cf x y < 0 ∨ cf y x < 0
def srt (cf : Int → Int → Int) (f : Nat → Int) (a b : Nat) : Prop := ∀ i j, a ≤ i → i < j → j < b → cf (f i) (f j) < 0
def inj (f : Nat → Int) (a b : Nat) : Prop := ∀ i j, a ≤ i → i < j → j < b → f i ≠ f j
structure PMs (s t : Nat → Nat) (a b : Nat) (f g : Nat → Int) : Prop where
  fg : ∀ k, g k = f (s k)
  st : ∀ k, s (t k) = k
  ts : ∀ k, t (s k) = k
  out : ∀ k, k < a ∨ b ≤ k → s k = k
def PM (a b : Nat) (f g : Nat → Int) : Prop := ∃ s t, PMs s t a b f g
theorem PM.refl (a b : Nat) (f : Nat → Int) : PM a b f f := ⟨id, id, fun _ => rfl, fun _ => rfl, fun _ => rfl, fun _ _ => rfl⟩
theorem PM.trans {a b : Nat} {f g h : Nat → Int} (h1 : PM a b f g) (h2 : PM a b g h) : PM a b f h := by
  obtain ⟨s, t, h3⟩ := h1
  obtain ⟨s2, t2, h4⟩ := h2
  exact ⟨fun k => s (s2 k), fun k => t2 (t k), fun k => (h4.fg k).trans (h3.fg _), fun k => by simp only [h4.st, h3.st], fun k => by simp only [h3.ts, h4.ts], fun k hk => by simp only [h4.out k hk, h3.out k hk]⟩
theorem PM.mono {a b a2 b2 : Nat} {f g : Nat → Int} (h : PM a b f g) (h1 : a2 ≤ a) (h2 : b ≤ b2) : PM a2 b2 f g := by
  obtain ⟨s, t, h3⟩ := h
  exact ⟨s, t, h3.fg, h3.st, h3.ts, fun k hk => h3.out k (by omega)⟩
theorem PMs.inr {s t : Nat → Nat} {a b : Nat} {f g : Nat → Int} (h : PMs s t a b f g) {k : Nat} (h1 : a ≤ k) (h2 : k < b) : a ≤ s k ∧ s k < b := by
  by_cases hk : s k < a ∨ b ≤ s k
  · have h3 := h.out (s k) hk
    have h4 : t (s (s k)) = t (s k) := by rw [h3]
    rw [h.ts, h.ts] at h4
    omega
  · omega
theorem PM.out {a b : Nat} {f g : Nat → Int} (h : PM a b f g) {k : Nat} (hk : k < a ∨ b ≤ k) : g k = f k := by
  obtain ⟨s, t, h3⟩ := h
  rw [h3.fg, h3.out k hk]
theorem PM.inj {a b : Nat} {f g : Nat → Int} (h : PM a b f g) {a2 b2 : Nat} (hi : inj f a2 b2) (h1 : a2 ≤ a) (h2 : b ≤ b2) : inj g a2 b2 := by
  obtain ⟨s, t, h3⟩ := h.mono h1 h2
  intro i j hi1 hij hj
  rw [h3.fg, h3.fg]
  have h4 := h3.inr hi1 (by omega)
  have h5 := h3.inr (show a2 ≤ j by omega) hj
  have hne : s i ≠ s j := fun he => by
    have h6 : t (s i) = t (s j) := by rw [he]
    rw [h3.ts, h3.ts] at h6
    omega
  rcases Nat.lt_or_gt_of_ne hne with h7 | h7
  · exact hi _ _ h4.1 h7 h5.2
  · exact fun he => hi _ _ h5.1 h7 h4.2 he.symm
theorem PM.V {V : Int → Prop} {a b n : Nat} {f g : Nat → Int} (h : PM a b f g) (hb : b ≤ n) (hV : ∀ k, k < n → V (f k)) : ∀ k, k < n → V (g k) := fun k hk => by
  obtain ⟨s, t, h3⟩ := h
  rw [h3.fg]
  by_cases hk2 : k < a ∨ b ≤ k
  · rw [h3.out k hk2]; exact hV k hk
  · exact hV _ (by have := h3.inr (k := k) (by omega) (by omega); omega)
theorem inj.sub {f : Nat → Int} {a b a2 b2 : Nat} (h : inj f a b) (h1 : a ≤ a2) (h2 : b2 ≤ b) : inj f a2 b2 := fun i j hi hij hj => h i j (by omega) hij (by omega)
theorem srt.sub {cf : Int → Int → Int} {f : Nat → Int} {a b a2 b2 : Nat} (h : srt cf f a b) (h1 : a ≤ a2) (h2 : b2 ≤ b) : srt cf f a2 b2 := fun i j hi hij hj => h i j (by omega) hij (by omega)
theorem srt.congr {cf : Int → Int → Int} {f g : Nat → Int} {a b : Nat} (h : srt cf f a b) (he : ∀ k, a ≤ k → k < b → g k = f k) : srt cf g a b := fun i j hi hij hj => by rw [he i hi (by omega), he j (by omega) hj]; exact h i j hi hij hj
def swF (f : Nat → Int) (i j : Nat) : Nat → Int := fun k => if k = i then f j else if k = j then f i else f k
theorem PM.swap {a b i j : Nat} (f : Nat → Int) (hi : a ≤ i ∧ i < b) (hj : a ≤ j ∧ j < b) : PM a b f (swF f i j) := by
  refine ⟨fun k => if k = i then j else if k = j then i else k, fun k => if k = i then j else if k = j then i else k, fun k => ?_, fun k => ?_, fun k => ?_, fun k hk => ?_⟩
  · unfold swF; split
    · rfl
    · split <;> rfl
  · by_cases h1 : k = i
    · subst h1; by_cases h2 : j = k
      · simp [h2]
      · simp [h2]
    · by_cases h2 : k = j
      · subst h2; simp [h1]
      · simp [h1, h2]
  · by_cases h1 : k = i
    · subst h1; by_cases h2 : j = k
      · simp [h2]
      · simp [h2]
    · by_cases h2 : k = j
      · subst h2; simp [h1]
      · simp [h1, h2]
  · rw [if_neg (by omega), if_neg (by omega)]
theorem gF_set (L : List Int) {i : Nat} (x : Int) (hi : i < L.length) (k : Nat) : gF (L.set i x) k = if k = i then x else gF L k := by
  unfold gF
  by_cases h : k = i
  · subst h; simp [List.getD_eq_getElem?_getD, hi]
  · rw [if_neg h]; simp [List.getD_eq_getElem?_getD, List.getElem?_set_ne (Ne.symm h)]
theorem gF_swap (L : List Int) {i j : Nat} (hi : i < L.length) (hj : j < L.length) : gF ((L.set i (L.getD j 0)).set j (L.getD i 0)) = swF (gF L) i j := by
  funext k
  rw [gF_set _ _ (by simpa using hj), gF_set _ _ hi]
  unfold swF
  by_cases h1 : k = j
  · subst h1
    by_cases h2 : k = i
    · subst h2; simp
    · simp [h2]
  · simp [h1]
def srF (f : Nat → Int) (a b n : Nat) : Nat → Int := fun k => if a ≤ k ∧ k < a + n then f (k - a + b) else if b ≤ k ∧ k < b + n then f (k - b + a) else f k
theorem srF_0 (f : Nat → Int) (a b : Nat) : srF f a b 0 = f := by
  funext k; unfold srF; rw [if_neg (by omega), if_neg (by omega)]
theorem srF_step {f : Nat → Int} {a b i n : Nat} (hd : a + n ≤ b) (hi : i < n) : swF (srF f a b i) (a + i) (b + i) = srF f a b (i + 1) := by
  funext k
  unfold swF srF
  by_cases h1 : k = a + i
  · subst h1
    rw [if_pos rfl, if_neg (by omega), if_neg (by omega), if_pos (by omega)]
    congr 1; omega
  · rw [if_neg h1]
    by_cases h2 : k = b + i
    · subst h2
      rw [if_pos rfl, if_neg (by omega), if_neg (by omega), if_neg (by omega), if_pos (by omega)]
      congr 1; omega
    · rw [if_neg h2]
      by_cases h3 : a ≤ k ∧ k < a + i
      · rw [if_pos h3, if_pos (by omega)]
      · rw [if_neg h3, if_neg (show ¬ (a ≤ k ∧ k < a + (i + 1)) by omega)]
        by_cases h4 : b ≤ k ∧ k < b + i
        · rw [if_pos h4, if_pos (by omega)]
        · rw [if_neg h4, if_neg (by omega)]
def roF (f : Nat → Int) (a m b : Nat) : Nat → Int := fun k => if k < a ∨ b ≤ k then f k else if k < a + (b - m) then f (k - a + m) else f (k - (b - m))
theorem roF_l {f : Nat → Int} {a m b i j : Nat} (hi : i = m - a) (hj : j = b - m) (ham : a ≤ m) (hmb : m ≤ b) (hij : j < i) (h0 : 0 < j) : roF (srF f a m j) (a + j) m b = roF f a m b := by
  subst hi; subst hj
  funext k
  unfold roF srF
  by_cases h1 : k < a ∨ b ≤ k
  · rw [if_pos h1, if_pos (by omega), if_neg (by omega), if_neg (by omega)]
  · rw [if_neg h1]
    by_cases h2 : k < a + (b - m)
    · rw [if_pos h2, if_pos (by omega), if_pos (by omega)]
    · rw [if_neg h2, if_neg (by omega)]
      by_cases h3 : k < a + (b - m) + (b - m)
      · rw [if_pos h3, if_neg (by omega), if_pos (by omega)]
        congr 1; omega
      · rw [if_neg h3, if_neg (by omega), if_neg (by omega)]
theorem roF_r {f : Nat → Int} {a m b i j : Nat} (hi : i = m - a) (hj : j = b - m) (ham : a ≤ m) (hmb : m ≤ b) (hij : i < j) (h0 : 0 < i) : roF (srF f a (b - i) i) a m (b - i) = roF f a m b := by
  subst hi; subst hj
  funext k
  unfold roF srF
  by_cases h1 : k < a ∨ b ≤ k
  · rw [if_pos (by omega), if_pos h1, if_neg (by omega), if_neg (by omega)]
  · rw [if_neg h1]
    by_cases h2 : b - (m - a) ≤ k
    · rw [if_pos (by omega), if_neg (by omega), if_pos (by omega), if_neg (by omega)]
      congr 1; omega
    · rw [if_neg (by omega)]
      by_cases h3 : k < a + (b - (m - a) - m)
      · rw [if_pos h3, if_neg (by omega), if_neg (by omega), if_pos (by omega)]
      · rw [if_neg h3, if_pos (show a ≤ k - (b - (m - a) - m) ∧ k - (b - (m - a) - m) < a + (m - a) by omega), if_pos (show k < a + (b - m) by omega)]
        congr 1; omega
theorem roF_e {f : Nat → Int} {a m b i : Nat} (hi : i = m - a) (hj : i = b - m) (ham : a ≤ m) (hmb : m ≤ b) : srF f a m i = roF f a m b := by
  funext k
  unfold roF srF
  by_cases h1 : k < a ∨ b ≤ k
  · rw [if_pos h1, if_neg (by omega), if_neg (by omega)]
  · rw [if_neg h1]
    by_cases h2 : k < a + (b - m)
    · rw [if_pos h2, if_pos (by omega)]
    · rw [if_neg h2, if_neg (by omega), if_pos (by omega)]
      congr 1; omega
theorem roF_nl {f : Nat → Int} {m b : Nat} (h : m ≤ b) : roF f m m b = f := by
  funext k; unfold roF; split
  · rfl
  · rw [if_pos (by omega)]; congr 1; omega
theorem roF_nr {f : Nat → Int} {a m : Nat} (h : a ≤ m) : roF f a m m = f := by
  funext k; unfold roF; split
  · rfl
  · rw [if_neg (by omega)]; congr 1; omega
theorem PM.ro {a m b : Nat} (f : Nat → Int) (h1 : a ≤ m) (h2 : m ≤ b) : PM a b f (roF f a m b) := by
  refine ⟨fun k => if k < a ∨ b ≤ k then k else if k < a + (b - m) then k - a + m else k - (b - m), fun k => if k < a ∨ b ≤ k then k else if k < m then k + (b - m) else k - (m - a), fun k => ?_, fun k => ?_, fun k => ?_, fun k hk => if_pos hk⟩
  · unfold roF
    split
    · rfl
    · split <;> rfl
  · by_cases h3 : k < a ∨ b ≤ k
    · simp only [h3, if_true]
    · by_cases h4 : k < m
      · have e : (if k < a ∨ b ≤ k then k else if k < m then k + (b - m) else k - (m - a)) = k + (b - m) := by rw [if_neg h3, if_pos h4]
        simp only [e]
        rw [if_neg (by omega), if_neg (by omega)]; omega
      · have e : (if k < a ∨ b ≤ k then k else if k < m then k + (b - m) else k - (m - a)) = k - (m - a) := by rw [if_neg h3, if_neg h4]
        simp only [e]
        rw [if_neg (by omega), if_pos (by omega)]; omega
  · by_cases h3 : k < a ∨ b ≤ k
    · simp only [h3, if_true]
    · by_cases h4 : k < a + (b - m)
      · have e : (if k < a ∨ b ≤ k then k else if k < a + (b - m) then k - a + m else k - (b - m)) = k - a + m := by rw [if_neg h3, if_pos h4]
        simp only [e]
        rw [if_neg (by omega), if_neg (by omega)]; omega
      · have e : (if k < a ∨ b ≤ k then k else if k < a + (b - m) then k - a + m else k - (b - m)) = k - (b - m) := by rw [if_neg h3, if_neg h4]
        simp only [e]
        rw [if_neg (by omega), if_pos (by omega)]; omega
section
variable {V : Int → Prop} {cf : Int → Int → Int} {f g : Nat → Int} {a m b n : Nat}
theorem srt.lt (hO : TO V cf) (hV : ∀ k, k < n → V (f k)) {i j : Nat} (hi : i < n) (hj : j < n) (hne : f i ≠ f j) (h : ¬ cf (f j) (f i) < 0) : cf (f i) (f j) < 0 := by
  rcases hO.tot _ _ (hV i hi) (hV j hj) hne with h1 | h1
  · exact h1
  · exact absurd h1 h
theorem ro_parts (hO : TO V cf) (hV : ∀ k, k < n → V (f k)) (hb : b ≤ n) (hI : inj f a b) (h1 : srt cf f a m) (h2 : srt cf f m b) {st en mid : Nat} (ha : a ≤ st ∧ st ≤ m) (he : m ≤ en ∧ en ≤ b) (hmid : mid = st + (en - m))
    (hx : a < st → en < b → ¬ cf (f en) (f (st - 1)) < 0) (hy : st < m → m < en → cf (f (en - 1)) (f st) < 0) :
    srt cf (roF f st m en) a st ∧ srt cf (roF f st m en) st mid ∧ srt cf (roF f st m en) mid en ∧ srt cf (roF f st m en) en b ∧ ∀ i j, a ≤ i → i < mid → mid ≤ j → j < b → cf (roF f st m en i) (roF f st m en j) < 0 := by
  have hX : ∀ i, a ≤ i → i < st → roF f st m en i = f i := fun i h3 h4 => by unfold roF; rw [if_pos (by omega)]
  have hY : ∀ i, st ≤ i → i < mid → roF f st m en i = f (i - st + m) := fun i h3 h4 => by unfold roF; rw [if_neg (by omega), if_pos (by omega)]
  have hX2 : ∀ i, mid ≤ i → i < en → roF f st m en i = f (i - (en - m)) := fun i h3 h4 => by unfold roF; rw [if_neg (by omega), if_neg (by omega)]
  have hY2 : ∀ i, en ≤ i → i < b → roF f st m en i = f i := fun i h3 h4 => by unfold roF; rw [if_pos (by omega)]
  refine ⟨fun i j h3 h4 h5 => ?_, fun i j h3 h4 h5 => ?_, fun i j h3 h4 h5 => ?_, fun i j h3 h4 h5 => ?_, fun i j h3 h4 h5 h6 => ?_⟩
  · rw [hX i h3 (by omega), hX j (by omega) h5]; exact h1 i j h3 h4 (by omega)
  · rw [hY i h3 (by omega), hY j (by omega) h5]; exact h2 _ _ (by omega) (by omega) (by omega)
  · rw [hX2 i h3 (by omega), hX2 j (by omega) h5]; exact h1 _ _ (by omega) (by omega) (by omega)
  · rw [hY2 i h3 (by omega), hY2 j (by omega) h5]; exact h2 i j (by omega) h4 (by omega)
  · have hV' : ∀ k, k < b → V (f k) := fun k hk => hV k (by omega)
    by_cases c1 : i < st
    · rw [hX i h3 c1]
      by_cases c2 : j < en
      · rw [hX2 j h5 c2]; exact h1 _ _ h3 (by omega) (by omega)
      · rw [hY2 j (by omega) h6]
        have k1 : cf (f (st - 1)) (f en) < 0 := srt.lt hO hV (by omega) (by omega) (hI _ _ (by omega) (by omega) (by omega)) (hx (by omega) (by omega))
        have k2 : i = st - 1 ∨ cf (f i) (f (st - 1)) < 0 := by
          by_cases c3 : i = st - 1
          · exact .inl c3
          · exact .inr (h1 _ _ h3 (by omega) (by omega))
        have k3 : cf (f i) (f en) < 0 := by
          rcases k2 with k2 | k2
          · rw [k2]; exact k1
          · exact hO.trans _ _ _ (hV' _ (by omega)) (hV' _ (by omega)) (hV' _ (by omega)) k2 k1
        by_cases c4 : j = en
        · rw [c4]; exact k3
        · exact hO.trans _ _ _ (hV' _ (by omega)) (hV' _ (by omega)) (hV' _ (by omega)) k3 (h2 _ _ (by omega) (by omega) h6)
    · rw [hY i (by omega) h4]
      by_cases c2 : j < en
      · rw [hX2 j h5 c2]
        have k1 := hy (by omega) (by omega)
        have k2 : cf (f (i - st + m)) (f st) < 0 := by
          by_cases c3 : i - st + m = en - 1
          · rw [c3]; exact k1
          · exact hO.trans _ _ _ (hV' _ (by omega)) (hV' _ (by omega)) (hV' _ (by omega)) (h2 _ _ (by omega) (by omega) (by omega)) k1
        by_cases c4 : j - (en - m) = st
        · rw [c4]; exact k2
        · exact hO.trans _ _ _ (hV' _ (by omega)) (hV' _ (by omega)) (hV' _ (by omega)) k2 (h1 _ _ (by omega) (by omega) (by omega))
      · rw [hY2 j (by omega) h6]; exact h2 _ _ (by omega) (by omega) h6
theorem one_l (hO : TO V cf) (hV : ∀ k, k < n → V (f k)) (hb : b ≤ n) (hI : inj f a b) (h2 : srt cf f (a + 1) b) {i : Nat} (hi : a + 1 ≤ i ∧ i ≤ b) (hx : i = a + 1 ∨ cf (f (i - 1)) (f a) < 0) (hy : i = b ∨ ¬ cf (f i) (f a) < 0) : srt cf (roF f a (a + 1) i) a b := by
  obtain ⟨_, q1, q2, q3, q4⟩ := ro_parts (m := a + 1) (st := a) (en := i) (mid := i - 1) hO hV hb hI (fun p q h3 h4 h5 => by omega) h2 (by omega) hi (by omega) (fun h => by omega) (fun _ h => by rcases hx with hx | hx <;> first | omega | exact hx)
  intro p q h3 h4 h5
  by_cases c1 : p < i - 1
  · by_cases c2 : q < i - 1
    · exact q1 p q h3 h4 c2
    · exact q4 p q h3 c1 (by omega) h5
  · by_cases c2 : p = i - 1
    · have e1 : roF f a (a + 1) i p = f a := by unfold roF; rw [if_neg (by omega), if_neg (by omega)]; congr 1; omega
      have e2 : roF f a (a + 1) i q = f q := by unfold roF; rw [if_pos (by omega)]
      have k1 : cf (f a) (f i) < 0 := by
        rcases hy with hy | hy
        · omega
        · exact srt.lt hO hV (by omega) (by omega) (hI _ _ (Nat.le_refl _) (by omega) (by omega)) hy
      rw [e1, e2]
      by_cases c3 : q = i
      · rw [c3]; exact k1
      · exact hO.trans _ _ _ (hV _ (by omega)) (hV _ (by omega)) (hV _ (by omega)) k1 (h2 _ _ (by omega) (by omega) h5)
    · exact q3 p q (by omega) h4 h5
theorem one_r (hO : TO V cf) (hV : ∀ k, k < n → V (f k)) (hb : m + 1 ≤ n) (hI : inj f a (m + 1)) (h1 : srt cf f a m) {i : Nat} (hi : a ≤ i ∧ i ≤ m) (hx : i = a ∨ ¬ cf (f m) (f (i - 1)) < 0) (hy : i = m ∨ cf (f m) (f i) < 0) : srt cf (roF f i m (m + 1)) a (m + 1) := by
  obtain ⟨q0, q1, q2, q3, q4⟩ := ro_parts (m := m) (st := i) (en := m + 1) (mid := i + 1) hO hV hb hI h1 (fun p q h3 h4 h5 => by omega) hi (by omega) (by omega) (fun _ h => by omega) (fun h _ => by rcases hy with hy | hy <;> first | omega | exact hy)
  intro p q h3 h4 h5
  by_cases c1 : q < i
  · exact q0 p q h3 h4 c1
  · by_cases c2 : q = i
    · have e1 : roF f i m (m + 1) q = f m := by unfold roF; rw [if_neg (by omega), if_pos (by omega)]; congr 1; omega
      have e2 : roF f i m (m + 1) p = f p := by unfold roF; rw [if_pos (by omega)]
      have k1 : cf (f (i - 1)) (f m) < 0 := by
        rcases hx with hx | hx
        · omega
        · exact srt.lt hO hV (by omega) (by omega) (hI _ _ (by omega) (by omega) (by omega)) hx
      rw [e1, e2]
      by_cases c3 : p = i - 1
      · rw [c3]; exact k1
      · exact hO.trans _ _ _ (hV _ (by omega)) (hV _ (by omega)) (hV _ (by omega)) (h1 _ _ (by omega) (by omega) (by omega)) k1
    · by_cases c3 : p < i + 1
      · exact q4 p q h3 c3 (by omega) h5
      · exact q2 p q (by omega) h4 h5
theorem PM.at {s t : Nat → Nat} (h : PMs s t a b f g) (k : Nat) : g k = f (s k) := h.fg k
theorem srt_join {h1 h2 : Nat → Int} {mid : Nat} (hm : a ≤ mid ∧ mid ≤ b) (hc : ∀ i j, a ≤ i → i < mid → mid ≤ j → j < b → cf (f i) (f j) < 0)
    (p1 : PM a mid f h1) (s1 : srt cf h1 a mid) (p2 : PM mid b h1 h2) (s2 : srt cf h2 mid b) : srt cf h2 a b := by
  intro i j hi hij hj
  by_cases c1 : j < mid
  · rw [p2.out (by omega), p2.out (by omega)]; exact s1 i j hi hij c1
  · by_cases c2 : mid ≤ i
    · exact s2 i j c2 hij hj
    · obtain ⟨s, t, q1⟩ := p1
      obtain ⟨s', t', q2⟩ := p2
      have e1 : h2 i = f (s i) := by rw [q2.fg, q2.out i (by omega), q1.fg]
      have e2 : h2 j = f (s' j) := by
        rw [q2.fg, q1.fg, q1.out _ (by have := q2.inr (k := j) (by omega) hj; omega)]
      rw [e1, e2]
      have r1 := q1.inr hi (by omega)
      have r2 := q2.inr (k := j) (by omega) hj
      exact hc _ _ r1.1 r1.2 r2.1 r2.2
theorem cf_ix {x y x' y' : Nat} (h : cf (f x) (f y) < 0) (hx : x = x') (hy : y = y') : cf (f x') (f y') < 0 := by subst hx; subst hy; exact h
theorem cf_ixn {x y x' y' : Nat} (h : ¬ cf (f x) (f y) < 0) (hx : x = x') (hy : y = y') : ¬ cf (f x') (f y') < 0 := by subst hx; subst hy; exact h
theorem roF_step1 {k : Nat} (h : a ≤ k) : swF (roF f a (a + 1) (k + 1)) k (k + 1) = roF f a (a + 1) (k + 1 + 1) := by
  funext q
  unfold swF roF
  by_cases h1 : q = k
  · subst h1
    rw [if_pos rfl, if_pos (by omega), if_neg (by omega), if_pos (by omega)]
    congr 1; omega
  · rw [if_neg h1]
    by_cases h2 : q = k + 1
    · subst h2
      rw [if_pos rfl, if_neg (by omega), if_neg (by omega), if_neg (by omega), if_neg (by omega)]
      congr 1; omega
    · rw [if_neg h2]
      by_cases h3 : q < a ∨ k + 1 ≤ q
      · rw [if_pos h3, if_pos (by omega)]
      · rw [if_neg h3, if_pos (by omega), if_neg (by omega), if_pos (by omega)]
theorem roF_step2 {k : Nat} (h : 0 < k) (hk : k ≤ m) : swF (roF f k m (m + 1)) k (k - 1) = roF f (k - 1) m (m + 1) := by
  funext q
  unfold swF roF
  by_cases h1 : q = k
  · subst h1
    rw [if_pos rfl, if_pos (by omega), if_neg (by omega), if_neg (by omega)]
    congr 1; omega
  · rw [if_neg h1]
    by_cases h2 : q = k - 1
    · subst h2
      rw [if_pos rfl, if_neg (by omega), if_pos (by omega), if_neg (by omega), if_pos (by omega)]
      congr 1; omega
    · rw [if_neg h2]
      by_cases h3 : q < k ∨ m + 1 ≤ q
      · rw [if_pos h3, if_pos (by omega)]
      · rw [if_neg h3, if_neg (by omega), if_neg (by omega), if_neg (by omega)]
def insI (cf : Int → Int → Int) (f : Nat → Int) (a i j : Nat) : Prop := ∀ p q, a ≤ p → p < q → q ≤ i → q ≠ j → cf (f p) (f q) < 0
theorem insI_0 {i : Nat} (h : srt cf f a i) : insI cf f a i i := fun p q h1 h2 h3 h4 => h p q h1 h2 (by omega)
theorem insI_step {i j : Nat} (h : insI cf f a i j) (haj : a < j) (hji : j ≤ i) (hc : cf (f j) (f (j - 1)) < 0) : insI cf (swF f j (j - 1)) a i (j - 1) := by
  intro p q h1 h2 h3 h4
  unfold swF
  by_cases c1 : q = j
  · rw [if_pos c1, if_neg (show p ≠ j by omega)]
    by_cases c2 : p = j - 1
    · rw [if_pos c2]; exact hc
    · rw [if_neg c2]; exact h _ _ h1 (by omega) (by omega) (by omega)
  · rw [if_neg c1, if_neg (show q ≠ j - 1 from h4)]
    by_cases c2 : p = j
    · rw [if_pos c2]; exact h _ _ (by omega) (by omega) h3 c1
    · rw [if_neg c2]
      by_cases c3 : p = j - 1
      · rw [if_pos c3]; exact h _ _ (by omega) (by omega) h3 c1
      · rw [if_neg c3]; exact h _ _ h1 h2 h3 c1
theorem insI_end1 {i j : Nat} (h : insI cf f a i j) (hj : j ≤ a) : srt cf f a (i + 1) := fun p q h1 h2 h3 => h p q h1 h2 (by omega) (by omega)
theorem insI_end2 (hO : TO V cf) (hV : ∀ k, k < n → V (f k)) {i j : Nat} (hb : i < n) (hI : inj f a (i + 1)) (h : insI cf f a i j) (haj : a < j) (hji : j ≤ i) (hc : ¬ cf (f j) (f (j - 1)) < 0) : srt cf f a (i + 1) := by
  intro p q h1 h2 h3
  by_cases c1 : q = j
  · subst c1
    have k1 : cf (f (q - 1)) (f q) < 0 := srt.lt hO hV (by omega) (by omega) (hI _ _ (by omega) (by omega) h3) hc
    by_cases c2 : p = q - 1
    · rw [c2]; exact k1
    · exact hO.trans _ _ _ (hV _ (by omega)) (hV _ (by omega)) (hV _ (by omega)) (h _ _ h1 (by omega) (by omega) (by omega)) k1
  · exact h p q h1 h2 (by omega) c1
theorem srt_1 {i : Nat} (h : i ≤ a + 1) : srt cf f a i := fun p q h1 h2 h3 => by omega
end
end Go.Proofs.Ytmbpomcbdopgnaa.Fw
namespace Go.Proofs.Ytmbpomcbdopgnaa.Fw
open Go Go.RowKit
structure Bx (b : Nat) (w w' : World) : Prop where
  os : w'.os = w.os
  tape : w'.tape = w.tape
  output : w'.output = w.output
  size : w.heap.size ≤ w'.heap.size
  block : ∀ k, k < w.heap.size → k ≠ b → w'.heap[k]? = w.heap[k]?
theorem Bx.refl (b : Nat) (w : World) : Bx b w w := ⟨rfl, rfl, rfl, Nat.le_refl _, fun _ _ _ => rfl⟩
theorem Bx.trans {b : Nat} {w w1 w2 : World} (h : Bx b w w1) (h2 : Bx b w1 w2) : Bx b w w2 :=
  ⟨h2.os.trans h.os, h2.tape.trans h.tape, h2.output.trans h.output, Nat.le_trans h.size h2.size, fun k hk hb => (h2.block k (Nat.lt_of_lt_of_le hk h.size) hb).trans (h.block k hk hb)⟩
theorem bx_ext {b : Nat} {w w1 w2 : World} (h : Bx b w w1) (e : Ext w1 w2) : Bx b w w2 :=
  ⟨e.os.trans h.os, e.tape.trans h.tape, e.output.trans h.output, Nat.le_trans h.size e.size, fun k hk hb => (e.block k (Nat.lt_of_lt_of_le hk h.size)).trans (h.block k hk hb)⟩
theorem bx_st {b : Nat} {w w1 w2 : World} (h : Bx b w w1) (x : St b w1 w2) : Bx b w w2 :=
  ⟨x.os.trans h.os, x.tape.trans h.tape, x.output.trans h.output, Nat.le_trans h.size (Nat.le_of_eq x.size.symm), fun k hk hb => (x.block k hb).trans (h.block k hk hb)⟩
theorem below_bx {b : Nat} {w0 w w' : World} (h : Ext w0 w) (hb : w0.heap.size ≤ b) (e : Bx b w w') : Ext w0 w' :=
  ⟨e.os.trans h.os, e.tape.trans h.tape, e.output.trans h.output, Nat.le_trans h.size e.size, fun k hk => (e.block k (Nat.lt_of_lt_of_le hk h.size) (by omega)).trans (h.block k hk)⟩
theorem bx_blk {b k : Nat} {w w' : World} {o : Obj} (e : Bx b w w') (h : w.heap[k]? = some o) (hne : k ≠ b) : w'.heap[k]? = some o := (e.block k (lt_of_blk h) hne).trans h
theorem RdI.bx {b : Nat} {w w' : World} {k : IntKind} {A : Option Addr} {L : List Int} (h : RdI w k A L) (e : Bx b w w') (hne : L = [] ∨ ∀ g o, A = some ⟨g, o, none⟩ → g ≠ b) : RdI w' k A L := by
  rcases hne with h0 | hne
  · subst h0; exact .inl rfl
  · rcases h with h | ⟨g, off, T, cs, fz, hA, hg, hc⟩
    · exact .inl h
    · exact .inr ⟨g, off, T, cs, fz, hA, bx_blk e hg (hne g off hA), hc⟩
theorem RdI.ne {w : World} {k : IntKind} {A : Option Addr} {L : List Int} {b : Nat} (h : RdI w k A L) (hb : w.heap.size ≤ b) : L = [] ∨ ∀ g o, A = some ⟨g, o, none⟩ → g ≠ b := by
  by_cases h0 : L = []
  · exact .inl h0
  · refine .inr fun g o hA => ?_
    have := h.lt (List.length_pos_iff.2 h0) g o hA
    omega
theorem Wd.bx {w w' : World} {T T' b : Nat} {k : IntKind} {A : Option Addr} {xs : List Int} {cs' : Array Value} {fz' : Nat × Nat} (h : Wd w T k A xs) (e : Bx b w w') (hb : w.heap[b]? = some (.cells cs' T' fz')) (hT : T' ≠ T) : Wd w' T k A xs := by
  rcases h with h | ⟨g, off, cs, fz, hA, hg, hc⟩
  · exact .inl h
  · refine .inr ⟨g, off, cs, fz, hA, bx_blk e hg ?_, hc⟩
    intro he
    subst he
    rw [hg] at hb
    injection hb with hb
    injection hb with _ hb _
    exact hT hb.symm
theorem Num.bx {m T T' b s l c : Nat} {k : IntKind} {w w' : World} {neg : Bool} {A : Option Addr} {z : Int} {cs' : Array Value} {fz' : Nat × Nat} (h : Num m T k w neg A l c z s) (e : Bx b w w') (hb : w.heap[b]? = some (.cells cs' T' fz')) (hT : T' ≠ T) : Num m T k w' neg A l c z s := by
  obtain ⟨xs, h1, h2, h3, h4⟩ := h
  exact ⟨xs, h1, h2, h3.bx e hb hT, h4⟩
theorem Wc.bx {m T T' b l c : Nat} {k : IntKind} {w w' : World} {A : Option Addr} {x : Int} {cs' : Array Value} {fz' : Nat × Nat} (h : Wc m T k w A l c x) (e : Bx b w w') (hb : w.heap[b]? = some (.cells cs' T' fz')) (hT : T' ≠ T) : Wc m T k w' A l c x := by
  obtain ⟨xs, h1, h2, h3, h4⟩ := h
  exact ⟨xs, h1, h2, h3.bx e hb hT, h4⟩
theorem Ws.bx {m T T' b l c : Nat} {k : IntKind} {w w' : World} {A : Option Addr} {x : Int} {cs' : Array Value} {fz' : Nat × Nat} (h : Ws m T k w A l c x) (e : Bx b w w') (hb : w.heap[b]? = some (.cells cs' T' fz')) (hT : T' ≠ T) : Ws m T k w' A l c x := by
  obtain ⟨xs, h1, h2, h3, h4⟩ := h
  exact ⟨xs, h1, h2, h3.bx e hb hT, h4⟩
abbrev fz (z : Int) : Int := pkz (fits z) z
def Ors (w : World) (base T : Nat) (A : Option Addr) (c : Nat) (L : List (List Int)) : Prop := w.ownsRow base T 1 (.slice A L.length c) L.length (L.map fun s => Value.string (bOf s)) ∧ base ≤ w.heap.size
theorem Ors.ext {w w' : World} {base T c : Nat} {A : Option Addr} {L : List (List Int)} (h : Ors w base T A c L) (e : Ext w w') : Ors w' base T A c L := ⟨own_keep h.1 fun g o hg _ _ => e.blk hg, Nat.le_trans h.2 e.size⟩
theorem Ors.st {w w' : World} {base T T' b c : Nat} {A : Option Addr} {L : List (List Int)} {cs' : Array Value} {fz' : Nat × Nat} (h : Ors w base T A c L) (e : St b w w') (hb : w.heap[b]? = some (.cells cs' T' fz')) (hT : T' ≠ T) : Ors w' base T A c L :=
  ⟨own_keep h.1 fun g o hg _ ⟨cs, fz, ho⟩ => e.blk hg (fun he => by
    subst he; subst ho
    rw [hg] at hb
    injection hb with hb
    injection hb with _ hb _
    exact hT hb.symm), by rw [e.size]; exact h.2⟩
theorem Ors.cap {w : World} {base T c : Nat} {A : Option Addr} {L : List (List Int)} (h : Ors w base T A c L) : L.length ≤ c := by
  rcases h.1.2 with ⟨hv, hn⟩ | ⟨g, cap, cur, hv, hb, hg, h1, h2, h3, h4⟩
  · omega
  · injection hv with _ _ hc
    omega
theorem Ors.at {w : World} {base T c : Nat} {A : Option Addr} {L : List (List Int)} (h : Ors w base T A c L) (hp : 0 < L.length) : ∃ g o, A = some ⟨g, o, none⟩ := by
  rcases h.1.2 with ⟨hv, hn⟩ | ⟨g, cap, cur, hv, hb, hg, h1, h2, h3, h4⟩
  · omega
  · injection hv with hA _ _
    exact ⟨_, _, hA⟩
theorem Ors.cell {w : World} {base T c g o : Nat} {L : List (List Int)} (h : Ors w base T (some ⟨g, o, none⟩) c L) {i : Nat} (hi : i < L.length) : w.cell? ⟨g, o + i, none⟩ = some (.string (bOf (L.getD i []))) := by
  rcases h.1.2 with ⟨hv, hn⟩ | ⟨g', cap, cur, hv, hb, hg, h1, h2, h3, h4⟩
  · omega
  · injection hv with hA _ hc
    injection hA with hA
    injection hA with h5 h6 _
    subst h5; subst h6
    rw [Nat.zero_add, cell_of_row w g i cur T _ hg]
    have h5 : (cur.toList.take (L.length * 1))[i]? = (L.map fun s => Value.string (bOf s))[i]? := by rw [h4]
    rw [List.getElem?_take_of_lt (by omega), List.getElem?_map, List.getElem?_eq_getElem hi] at h5
    simpa [List.getD_eq_getElem?_getD, List.getElem?_eq_getElem hi] using h5
theorem Ors.off {w : World} {base T c g o : Nat} {L : List (List Int)} (h : Ors w base T (some ⟨g, o, none⟩) c L) : o = 0 ∧ base ≤ g := by
  rcases h.1.2 with ⟨hv, hn⟩ | ⟨g', cap, cur, hv, hb, hg, h1, h2, h3, h4⟩
  · injection hv with hA _ _
    cases hA
  · injection hv with hA _ hc
    injection hA with hA
    injection hA with h5 h6 h7
    subst h5
    exact ⟨h6, hb⟩
theorem Ors.full {w' : World} {b T : Nat} {L : List (List Int)} {l : List Value} (h : w'.heap[b]? = some (.cells l.toArray T)) (hl : l = L.map fun s => Value.string (bOf s)) (hc : L.length ≤ 281474976710656) : Ors w' b T (some ⟨b, 0, none⟩) L.length L := by
  subst hl
  exact ⟨⟨by simp, .inr ⟨b, L.length, _, rfl, Nat.le_refl _, h, Nat.le_refl _, by simp only [maxLen]; omega, by simp, by simp [List.take_of_length_le]⟩⟩, Nat.le_of_lt (lt_of_blk h)⟩
theorem Ors.bl {w w' : World} {base base' T c : Nat} {A : Option Addr} {L : List (List Int)} (h : Ors w base T A c L) (e : Below base' w w') (hlt : ∀ g o, A = some ⟨g, o, none⟩ → g < base') : Ors w' base T A c L := by
  obtain ⟨⟨h1, h2⟩, h3⟩ := h
  refine ⟨⟨h1, ?_⟩, Nat.le_trans h3 e.size⟩
  rcases h2 with h2 | ⟨g, cap, cur, hv, hbg, hg, r⟩
  · exact .inl h2
  · injection hv with hA _ hc
    exact .inr ⟨g, cap, cur, by rw [hA, hc], hbg, bl_blk e hg (hlt g 0 hA), r⟩
structure Ev where
  x : Int
  y : Int
  u : Int
  es : List Int
abbrev SlF := Nat → Option Addr × Nat
def evAt (cs : Nat → Option Value) (i : Nat) (ws : Nat → Int) (A : Option Addr) (n c : Nat) : Prop :=
  (∀ j, j < 12 → cs (i * 13 + j) = some (.int .u64 (ws j))) ∧ cs (i * 13 + 12) = some (.slice A n c)
structure NR (w : World) (lo hi : Nat) (A : Option Addr) (l : Nat) (W : Nat → Nat → Int) (E : Nat → List Int) (SL : SlF) : Prop where
  lh : hi ≤ w.heap.size
  row : l = 0 ∨ ∃ (g off T : Nat) (cs : Array Value) (fz : Nat × Nat), A = some ⟨g, off, none⟩ ∧ w.heap[g]? = some (.cells cs T fz) ∧ (lo ≤ g ∧ g < hi) ∧ ∀ i, i < l → evAt (fun k => cs[off + k]?) i (W i) (SL i).1 (E i).length (SL i).2
  inner : ∀ i, i < l → (E i).length ≤ (SL i).2 ∧ RdI w .i64 (SL i).1 (E i) ∧ ∀ g o, (SL i).1 = some ⟨g, o, none⟩ → E i ≠ [] → lo ≤ g ∧ g < hi
structure Mid (lo hi : Nat) (x : Int) (w w' : World) : Prop where
  os : w'.os = w.os
  tape : w'.tape = w.tape
  output : w'.output = w.output
  size : w.heap.size ≤ w'.heap.size
  block : ∀ k, k < w.heap.size → (k < lo ∨ hi ≤ k ∨ (k : Int) = x) → w'.heap[k]? = w.heap[k]?
theorem Mid.refl (lo hi : Nat) (x : Int) (w : World) : Mid lo hi x w w := ⟨rfl, rfl, rfl, Nat.le_refl _, fun _ _ _ => rfl⟩
theorem Mid.trans {lo hi : Nat} {x : Int} {w w1 w2 : World} (h : Mid lo hi x w w1) (h2 : Mid lo hi x w1 w2) : Mid lo hi x w w2 :=
  ⟨h2.os.trans h.os, h2.tape.trans h.tape, h2.output.trans h.output, Nat.le_trans h.size h2.size, fun k hs hk => (h2.block k (Nat.lt_of_lt_of_le hs h.size) hk).trans (h.block k hs hk)⟩
theorem Ext.mid {lo hi : Nat} {x : Int} {w w' : World} (h : Ext w w') : Mid lo hi x w w' := ⟨h.os, h.tape, h.output, h.size, fun k hs _ => h.block k hs⟩
theorem St.mid {lo hi b : Nat} {x : Int} {w w' : World} (h : St b w w') (h1 : lo ≤ b) (h2 : b < hi) (h3 : (b : Int) ≠ x) : Mid lo hi x w w' :=
  ⟨h.os, h.tape, h.output, Nat.le_of_eq h.size.symm, fun k _ hk => h.block k (by omega)⟩
theorem RdI.keep {w w' : World} {k : IntKind} {A : Option Addr} {L : List Int} (h : RdI w k A L) (hk : ∀ g o ob, A = some ⟨g, o, none⟩ → L ≠ [] → w.heap[g]? = some ob → w'.heap[g]? = some ob) : RdI w' k A L := by
  rcases h with h | ⟨g, off, T, cs, fz, hA, hg, hc⟩
  · exact .inl h
  · by_cases hL : L = []
    · exact .inl (by rw [hL]; rfl)
    · exact .inr ⟨g, off, T, cs, fz, hA, hk g off _ hA hL hg, hc⟩
section
variable {w w' : World} {lo hi : Nat} {A : Option Addr} {l : Nat} {W : Nat → Nat → Int} {E : Nat → List Int} {SL : SlF}
theorem NR.keep (h : NR w lo hi A l W E SL) (hs : w.heap.size ≤ w'.heap.size) (hk : ∀ g ob, lo ≤ g → g < hi → w.heap[g]? = some ob → w'.heap[g]? = some ob) : NR w' lo hi A l W E SL := by
  refine ⟨Nat.le_trans h.lh hs, ?_, fun i hi' => ?_⟩
  · rcases h.row with h | ⟨g, off, T, cs, fz, hA, hg, hr, hc⟩
    · exact .inl h
    · exact .inr ⟨g, off, T, cs, fz, hA, hk g _ hr.1 hr.2 hg, hr, hc⟩
  · obtain ⟨h1, h2, h3⟩ := h.inner i hi'
    exact ⟨h1, h2.keep fun g o ob hA hL hg => hk g ob (h3 g o hA hL).1 (h3 g o hA hL).2 hg, h3⟩
theorem NR.ext (h : NR w lo hi A l W E SL) (e : Ext w w') : NR w' lo hi A l W E SL := h.keep e.size fun _ _ _ _ hg => e.blk hg
theorem NR.mid {lo' hi' : Nat} {x' : Int} (h : NR w lo hi A l W E SL) (e : Mid lo' hi' x' w w') (hd : hi ≤ lo' ∨ hi' ≤ lo) : NR w' lo hi A l W E SL :=
  h.keep e.size fun g _ h1 h2 hg => (e.block g (lt_of_blk hg) (by omega)).trans hg
theorem NR.bl {base : Nat} (h : NR w lo hi A l W E SL) (e : Below base w w') (hd : hi ≤ base) : NR w' lo hi A l W E SL :=
  h.keep e.size fun g _ h1 h2 hg => (e.block g (by omega)).trans hg
theorem NR.st {b : Nat} (h : NR w lo hi A l W E SL) (e : St b w w') (hd : hi ≤ b ∨ b < lo) : NR w' lo hi A l W E SL :=
  h.keep (Nat.le_of_eq e.size.symm) fun g _ h1 h2 hg => (e.block g (by omega)).trans hg
theorem NR.at (h : NR w lo hi A l W E SL) (hp : 0 < l) : ∃ g o, A = some ⟨g, o, none⟩ := by
  rcases h.row with h | ⟨g, off, T, cs, fz, hA, hg, hr, hc⟩
  · omega
  · exact ⟨g, off, hA⟩
theorem NR.cells {g o : Nat} (h : NR w lo hi (some ⟨g, o, none⟩) l W E SL) {i : Nat} (hi' : i < l) : evAt (fun k => w.cell? ⟨g, o + k, none⟩) i (W i) (SL i).1 (E i).length (SL i).2 := by
  rcases h.row with h | ⟨g', off, T, cs, fz, hA, hg, hr, hc⟩
  · omega
  · obtain ⟨rfl, rfl⟩ : g = g' ∧ o = off := by simpa using hA
    have hcell : ∀ k, w.cell? ⟨g, o + k, none⟩ = cs[o + k]? := fun k => cell_of_row w g (o + k) cs T fz hg
    obtain ⟨h1, h2⟩ := hc i hi'
    exact ⟨fun j hj => (hcell _).trans (h1 j hj), (hcell _).trans h2⟩
theorem NR.cap (h : NR w lo hi A l W E SL) {i : Nat} (hi' : i < l) : (E i).length ≤ (SL i).2 := (h.inner i hi').1
theorem NR.congr {W' : Nat → Nat → Int} {E' : Nat → List Int} (h : NR w lo hi A l W E SL) (hW : ∀ i, i < l → ∀ j, j < 12 → W' i j = W i j) (hE : ∀ i, i < l → E' i = E i) : NR w lo hi A l W' E' SL := by
  refine ⟨h.lh, ?_, fun i hi' => by rw [hE i hi']; exact h.inner i hi'⟩
  rcases h.row with h | ⟨g, off, T, cs, fz, hA, hg, hr, hc⟩
  · exact .inl h
  · refine .inr ⟨g, off, T, cs, fz, hA, hg, hr, fun i hi' => ?_⟩
    obtain ⟨h1, h2⟩ := hc i hi'
    exact ⟨fun j hj => by rw [h1 j hj, hW i hi' j hj], by rw [hE i hi']; exact h2⟩
end
structure NO (w : World) (lo hi : Nat) (x : Int) (T T' : Nat) (A : Option Addr) (l c : Nat) (W : Nat → Nat → Int) (E : Nat → List Int) (SL : SlF) : Prop where
  lh : lo ≤ hi ∧ hi ≤ w.heap.size
  lc : l ≤ c
  row : c = 0 ∨ ∃ (g off : Nat) (cs : List Value), A = some ⟨g, off, none⟩ ∧ w.heap[g]? = some (.cells cs.toArray T) ∧ ((lo ≤ g ∧ g < hi) ∧ (g : Int) ≠ x) ∧ off + c * 13 ≤ cs.length ∧ ∀ i, i < l → evAt (fun k => cs[off + k]?) i (W i) (SL i).1 (E i).length (SL i).2
  inner : ∀ i, i < l → Ow w lo T' .i64 (SL i).1 (SL i).2 (E i) ∧ ∀ b o, (SL i).1 = some ⟨b, o, none⟩ → (b < hi ∧ (b : Int) ≠ x) ∧ ∀ i', i' < l → i' ≠ i → ∀ b' o', (SL i').1 = some ⟨b', o', none⟩ → b' ≠ b
theorem Ow.keep {w w' : World} {base T c : Nat} {k : IntKind} {A : Option Addr} {L : List Int} (h : Ow w base T k A c L) (hs : w.heap.size ≤ w'.heap.size) (hk : ∀ g o ob, A = some ⟨g, o, none⟩ → w.heap[g]? = some ob → w'.heap[g]? = some ob) : Ow w' base T k A c L := by
  obtain ⟨⟨h1, h2⟩, h3⟩ := h
  refine ⟨⟨h1, ?_⟩, Nat.le_trans h3 hs⟩
  rcases h2 with h2 | ⟨g, cap, cur, hv, hb, hg, r⟩
  · exact .inl h2
  · refine .inr ⟨g, cap, cur, hv, hb, hk g 0 _ ?_ hg, r⟩
    injection hv
section
variable {w w' : World} {lo hi T T' : Nat} {x : Int} {A : Option Addr} {l c : Nat} {W : Nat → Nat → Int} {E : Nat → List Int} {SL : SlF}
theorem NO.keep (h : NO w lo hi x T T' A l c W E SL) (hs : w.heap.size ≤ w'.heap.size) (hk : ∀ g ob, lo ≤ g → g < hi → (g : Int) ≠ x → w.heap[g]? = some ob → w'.heap[g]? = some ob) : NO w' lo hi x T T' A l c W E SL := by
  refine ⟨⟨h.lh.1, Nat.le_trans h.lh.2 hs⟩, h.lc, ?_, fun i hi' => ?_⟩
  · rcases h.row with h | ⟨g, off, cs, hA, hg, hr, hc⟩
    · exact .inl h
    · exact .inr ⟨g, off, cs, hA, hk g _ hr.1.1 hr.1.2 hr.2 hg, hr, hc⟩
  · obtain ⟨h1, h2⟩ := h.inner i hi'
    exact ⟨h1.keep hs fun g o ob hA hg => hk g ob (h1.ge hA) (h2 g o hA).1.1 (h2 g o hA).1.2 hg, h2⟩
theorem NO.ext (h : NO w lo hi x T T' A l c W E SL) (e : Ext w w') : NO w' lo hi x T T' A l c W E SL := h.keep e.size fun _ _ _ _ _ hg => e.blk hg
theorem NO.mid {lo' hi' : Nat} {x' : Int} (h : NO w lo hi x T T' A l c W E SL) (e : Mid lo' hi' x' w w') (hd : hi ≤ lo' ∨ hi' ≤ lo ∨ ((lo' : Int) = x ∧ hi' ≤ lo' + 1)) : NO w' lo hi x T T' A l c W E SL :=
  h.keep e.size fun g _ h1 h2 _ hg => (e.block g (lt_of_blk hg) (by omega)).trans hg
theorem NO.bl {base : Nat} (h : NO w lo hi x T T' A l c W E SL) (e : Below base w w') (hd : hi ≤ base) : NO w' lo hi x T T' A l c W E SL :=
  h.keep e.size fun g _ h1 h2 _ hg => (e.block g (by omega)).trans hg
theorem NO.st {b : Nat} (h : NO w lo hi x T T' A l c W E SL) (e : St b w w') (hd : hi ≤ b ∨ b < lo ∨ (b : Int) = x) : NO w' lo hi x T T' A l c W E SL :=
  h.keep (Nat.le_of_eq e.size.symm) fun g _ h1 h2 h3 hg => (e.block g (by omega)).trans hg
theorem NO.nr (h : NO w lo hi x T T' A l c W E SL) : NR w lo hi A l W E SL := by
  refine ⟨h.lh.2, ?_, fun i hi' => ?_⟩
  · rcases h.row with h0 | ⟨g, off, cs, hA, hg, hr, _, hc⟩
    · exact .inl (by have := h.lc; omega)
    · exact .inr ⟨g, off, T, cs.toArray, _, hA, hg, hr.1, fun i hi' => by simpa using hc i hi'⟩
  · obtain ⟨h1, h2⟩ := h.inner i hi'
    exact ⟨h1.cap, h1.wd.rdI, fun g o hA _ => ⟨h1.ge hA, (h2 g o hA).1.1⟩⟩
theorem NO.at (h : NO w lo hi x T T' A l c W E SL) (hp : 0 < c) : ∃ g o, A = some ⟨g, o, none⟩ := by
  rcases h.row with h0 | ⟨g, off, cs, hA, _⟩
  · omega
  · exact ⟨g, off, hA⟩
theorem NO.congr {W' : Nat → Nat → Int} {E' : Nat → List Int} (h : NO w lo hi x T T' A l c W E SL) (hW : ∀ i, i < l → ∀ j, j < 12 → W' i j = W i j) (hE : ∀ i, i < l → E' i = E i) : NO w lo hi x T T' A l c W' E' SL := by
  refine ⟨h.lh, h.lc, ?_, fun i hi' => by rw [hE i hi']; exact h.inner i hi'⟩
  rcases h.row with h | ⟨g, off, cs, hA, hg, hr, hl, hc⟩
  · exact .inl h
  · refine .inr ⟨g, off, cs, hA, hg, hr, hl, fun i hi' => ?_⟩
    obtain ⟨h1, h2⟩ := hc i hi'
    exact ⟨fun j hj => by rw [h1 j hj, hW i hi' j hj], by rw [hE i hi']; exact h2⟩
theorem Below.fresh {N : Nat} {w0 w : World} (h : Below N w0 w) : w0.heap.size ≤ w.heap.size := h.size
end
end Go.Proofs.Ytmbpomcbdopgnaa.Fw
namespace Go.Proofs.Ytmbpomcbdopgnaa.Fw
abbrev riseAt (L : List Int) (k : Nat) : Prop := (0 ≤ L.getD k 0 ∧ L.getD k 0 ≤ 39) ∧ (0 < k → L.getD (k - 1) 0 < L.getD k 0)
def riseP (L : List Int) : Prop := ∀ k, k < L.length → riseAt L k
instance (L : List Int) : Decidable (riseP L) := by unfold riseP; infer_instance
abbrev evC1 (Q : Nat → Ev) (i : Nat) : Prop := 0 < i → pc (Q (i - 1)).x (Q (i - 1)).y (Q (i - 1)).u (Q i).x (Q i).y (Q i).u < 0
abbrev evOkAt (Q : Nat → Ev) (i : Nat) : Prop := pOk (Q i).x (Q i).y (Q i).u ∧ 0 < (Q i).es.length ∧ riseP (Q i).es ∧ evC1 Q i
def evsOk (l : Nat) (Q : Nat → Ev) : Prop := l ≤ 200 ∧ ∀ i, i < l → evOkAt Q i
instance (l : Nat) (Q : Nat → Ev) : Decidable (evsOk l Q) := by unfold evsOk; infer_instance
def evF (l : Nat) (Q : Nat → Ev) : Prop := ∀ i, i < l → (fits (Q i).x ∧ fits (Q i).y ∧ fits (Q i).u) ∧ (Q i).es.length ≤ 1048576
theorem evF.x {l : Nat} {Q : Nat → Ev} (h : evF l Q) {i : Nat} (hi : i < l) : fits (Q i).x := (h i hi).1.1
theorem evF.y {l : Nat} {Q : Nat → Ev} (h : evF l Q) {i : Nat} (hi : i < l) : fits (Q i).y := (h i hi).1.2.1
theorem evF.u {l : Nat} {Q : Nat → Ev} (h : evF l Q) {i : Nat} (hi : i < l) : fits (Q i).u := (h i hi).1.2.2
theorem evF.n {l : Nat} {Q : Nat → Ev} (h : evF l Q) {i : Nat} (hi : i < l) : (Q i).es.length ≤ 1048576 := (h i hi).2
end Go.Proofs.Ytmbpomcbdopgnaa.Fw
namespace Go.Proofs.Ytmbpomcbdopgnaa.Fw
open Go Go.RowKit
structure NG (w : World) (lo hi T T' : Nat) (A : Option Addr) (l c : Nat) (W : Nat → Nat → Int) (E : Nat → List Int) (SL : SlF) : Prop where
  lh : lo ≤ hi ∧ hi ≤ w.heap.size
  rlt : ∀ g o, A = some ⟨g, o, none⟩ → g < hi
  own : ∃ vs : List Value, w.ownsRow lo T 13 (.slice A l c) l vs ∧ ∀ i, i < l → evAt (fun k => vs[k]?) i (W i) (SL i).1 (E i).length (SL i).2
  inner : ∀ i, i < l → Ow w lo T' .i64 (SL i).1 (SL i).2 (E i) ∧ ∀ b o, (SL i).1 = some ⟨b, o, none⟩ → b < hi ∧ ∀ i', i' < l → i' ≠ i → ∀ b' o', (SL i').1 = some ⟨b', o', none⟩ → b' ≠ b
theorem own_keepS {w w' : World} {base T n s : Nat} {v : Value} {xs : List Value} (h : w.ownsRow base T s v n xs) (hk : ∀ g o cap, v = .slice (some ⟨g, 0, none⟩) n cap → w.heap[g]? = some o → base ≤ g → w'.heap[g]? = some o) : w'.ownsRow base T s v n xs := by
  refine ⟨h.1, ?_⟩
  rcases h.2 with h | ⟨g, cap, cur, hv, hb, hg, r⟩
  · exact .inl h
  · exact .inr ⟨g, cap, cur, hv, hb, hk g _ cap hv hg hb, r⟩
section
variable {w w' : World} {lo hi T T' : Nat} {A : Option Addr} {l c : Nat} {W : Nat → Nat → Int} {E : Nat → List Int} {SL : SlF}
theorem NG.keep (h : NG w lo hi T T' A l c W E SL) (hs : w.heap.size ≤ w'.heap.size) (hk : ∀ g ob, lo ≤ g → g < hi → w.heap[g]? = some ob → w'.heap[g]? = some ob) : NG w' lo hi T T' A l c W E SL := by
  obtain ⟨vs, ho, hc⟩ := h.own
  refine ⟨⟨h.lh.1, Nat.le_trans h.lh.2 hs⟩, h.rlt, ⟨vs, own_keepS ho fun g o cap hv hg hb => hk g o hb (h.rlt g 0 (by injection hv)) hg, hc⟩, fun i hi' => ⟨(h.inner i hi').1.keep hs fun g o ob hA hg => hk g ob ((h.inner i hi').1.ge hA) ((h.inner i hi').2 g o hA).1 hg, (h.inner i hi').2⟩⟩
theorem NG.ext (h : NG w lo hi T T' A l c W E SL) (e : Ext w w') : NG w' lo hi T T' A l c W E SL := h.keep e.size fun _ _ _ _ hg => e.blk hg
theorem NG.bl {base : Nat} (h : NG w lo hi T T' A l c W E SL) (e : Below base w w') (hb : hi ≤ base) : NG w' lo hi T T' A l c W E SL := h.keep e.size fun g _ _ h2 hg => (e.block g (by omega)).trans hg
theorem NG.st {b : Nat} (h : NG w lo hi T T' A l c W E SL) (e : St b w w') (hb : hi ≤ b) : NG w' lo hi T T' A l c W E SL := h.keep (Nat.le_of_eq e.size.symm) fun g _ _ h2 hg => e.blk hg (by omega)
theorem NG.mono {hi2 : Nat} (h : NG w lo hi T T' A l c W E SL) (hh : hi ≤ hi2) (h2 : hi2 ≤ w.heap.size) : NG w lo hi2 T T' A l c W E SL :=
  ⟨⟨by have := h.lh; omega, h2⟩, fun g o hA => by have := h.rlt g o hA; omega, h.own, fun i hi' => ⟨(h.inner i hi').1, fun b o hA => ⟨by have := ((h.inner i hi').2 b o hA).1; omega, ((h.inner i hi').2 b o hA).2⟩⟩⟩
theorem NG.made {w w' : World} {b T T' : Nat} {W : Nat → Nat → Int} {E : Nat → List Int} {SL : SlF} (h : New w b (.cells #[] T) w') : NG w' b w'.heap.size T T' (some ⟨b, 0, none⟩) 0 0 W E SL :=
  ⟨⟨Nat.le_of_lt (lt_of_blk h.blk), Nat.le_refl _⟩, fun g o hA => by injection hA with hA; injection hA with hA _ _; subst hA; exact lt_of_blk h.blk, ⟨[], ⟨rfl, .inr ⟨b, 0, #[], rfl, Nat.le_refl _, h.blk, Nat.le_refl _, Nat.zero_le _, rfl, rfl⟩⟩, fun i hi => absurd hi (Nat.not_lt_zero _)⟩, fun i hi => absurd hi (Nat.not_lt_zero _)⟩
theorem NG.no (h : NG w lo hi T T' A l c W E SL) : NO w lo w.heap.size (-1) T T' A l l W E SL := by
  obtain ⟨vs, ho, hc⟩ := h.own
  refine ⟨⟨by have := h.lh; omega, Nat.le_refl _⟩, Nat.le_refl _, ?_, fun i hi' => ⟨(h.inner i hi').1, fun b o hA => ⟨⟨by have := ((h.inner i hi').2 b o hA).1; have := h.lh; omega, by omega⟩, ((h.inner i hi').2 b o hA).2⟩⟩⟩
  rcases ho.2 with ⟨hv, hn⟩ | ⟨g, cap, cur, hv, hb, hg, h1, h2, h3, h4⟩
  · exact .inl hn
  · injection hv with hA _ hcc
    refine .inr ⟨g, 0, cur.toList, hA, by simpa using hg, ⟨⟨hb, lt_of_blk hg⟩, by omega⟩, by simp; omega, fun i hi' => ?_⟩
    have hk : ∀ k, k < l * 13 → cur.toList[0 + k]? = vs[k]? := fun k hk => by rw [Nat.zero_add, ← h4, List.getElem?_take_of_lt hk]
    obtain ⟨h5, h6⟩ := hc i hi'
    exact ⟨fun j hj => (hk _ (by omega)).trans (h5 j hj), (hk _ (by omega)).trans h6⟩
theorem Ow.ne_row {s c2 b o g : Nat} {A2 : Option Addr} {L : List Int} {cs : Array Value} {fz : Nat × Nat} (hO : Ow w s T' .i64 A2 c2 L) (hT : T ≠ T') (hg : w.heap[g]? = some (.cells cs T fz)) (hA : A2 = some ⟨b, o, none⟩) : b ≠ g := by
  intro he
  subst he; subst hA
  rcases hO.1.2 with ⟨hv2, _⟩ | ⟨g2, cap, cur, hv2, hb2, hg2, _⟩
  · injection hv2 with h1 _ _; cases h1
  · injection hv2 with h1 _ _
    injection h1 with h1
    injection h1 with h1 _ _
    subst h1
    rw [hg] at hg2
    injection hg2 with hg2
    injection hg2 with _ hg2 _
    exact hT hg2
theorem NO.tail {x : Int} {g o X o0 : Nat} (h : NO w lo hi x T T' (some ⟨g, o, none⟩) l c W E SL) (hT : T ≠ T') (hl : 0 < l) (hX : (SL 0).1 = some ⟨X, o0, none⟩) : NO w lo hi X T T' (some ⟨g, o + 13, none⟩) (l - 1) (c - 1) (fun i => W (i + 1)) (fun i => E (i + 1)) (fun i => SL (i + 1)) := by
  refine ⟨h.lh, by have := h.lc; omega, ?_, fun i hi' => ?_⟩
  · rcases h.row with h0 | ⟨g', off, cs, hA, hg, hr, hlen, hc⟩
    · have := h.lc; omega
    · obtain ⟨rfl, rfl⟩ : g = g' ∧ o = off := by simpa using hA
      have hXg := (h.inner 0 hl).1.ne_row hT hg hX
      refine .inr ⟨g, o + 13, cs, rfl, hg, ⟨hr.1, by omega⟩, by have := h.lc; omega, fun i hi' => ?_⟩
      obtain ⟨h5, h6⟩ := hc (i + 1) (by omega)
      have e : ∀ k, o + 13 + (i * 13 + k) = o + ((i + 1) * 13 + k) := fun k => by omega
      exact ⟨fun j hj => by show cs[o + 13 + (i * 13 + j)]? = _; rw [e]; exact h5 j hj, by show cs[o + 13 + (i * 13 + 12)]? = _; rw [e]; exact h6⟩
  · obtain ⟨h1, h2⟩ := h.inner (i + 1) (by omega)
    refine ⟨h1, fun b o hA => ⟨⟨(h2 b o hA).1.1, ?_⟩, fun i' hi2 hne b' o' hb' => (h2 b o hA).2 (i' + 1) (by omega) (by omega) b' o' hb'⟩⟩
    have := (h2 b o hA).2 0 hl (by omega) X o0 hX
    omega
end
structure Sb (A : Option Addr) (w w' : World) : Prop where
  os : w'.os = w.os
  tape : w'.tape = w.tape
  output : w'.output = w.output
  size : w'.heap.size = w.heap.size
  block : ∀ k, (∀ o, A ≠ some ⟨k, o, none⟩) → w'.heap[k]? = w.heap[k]?
theorem Sb.refl (A : Option Addr) (w : World) : Sb A w w := ⟨rfl, rfl, rfl, rfl, fun _ _ => rfl⟩
theorem Sb.st {g o : Nat} {w w1 w2 : World} (h : Sb (some ⟨g, o, none⟩) w w1) (h2 : St g w1 w2) : Sb (some ⟨g, o, none⟩) w w2 :=
  ⟨h2.os.trans h.os, h2.tape.trans h.tape, h2.output.trans h.output, h2.size.trans h.size, fun k hk => (h2.block k (fun e => hk o (by rw [e]))).trans (h.block k hk)⟩
theorem Sb.mid {A : Option Addr} {X : Nat} {w w' : World} (h : Sb A w w') (hA : ∀ b o, A = some ⟨b, o, none⟩ → b = X) : Mid X (X + 1) (-1) w w' :=
  ⟨h.os, h.tape, h.output, Nat.le_of_eq h.size.symm, fun k _ hk => h.block k fun o he => by have := hA k o he; omega⟩
section
variable {P : Program} {n : Nat} {fr : Fr} {w : World} {ty : TypeId} {lo hi T T' : Nat} {x : Int} {A : Option Addr} {l c : Nat} {W : Nat → Nat → Int} {E : Nat → List Int} {SL : SlF}
theorem oe_storeOwS {t : TypeId} {x y : Operand} {base T c g o i : Nat} {k : IntKind} {L : List Int} {z : Int} {K : Value → World → Prop} (hs : sizeB P t = some 1) (hx : EV n fr x (.pointer (some ⟨g, o + i, none⟩))) (hy : EV n fr y (.int k z))
    (hO : Ow w base T k (some ⟨g, o, none⟩) c L) (hi : i < L.length) (h : ∀ w', Ow w' base T k (some ⟨g, o, none⟩) c (L.set i z) → Below base w w' → St g w w' → K undef w') : OE P n (.store t x y) ty fr w K := by
  obtain ⟨rfl, hbg⟩ := hO.off
  rw [Nat.zero_add] at hx
  rcases hO.1.2 with ⟨hv, hn⟩ | ⟨g', cap, cur, hv, hb, hg, h1, h2, h3, h4⟩
  · injection hv with hA _ _
    cases hA
  · injection hv with hA _ hc
    injection hA with hA
    injection hA with h5
    subst h5; subst hc
    have hlc : i < cur.toList.length := by simp; omega
    have hst : stC cur.toList i [.int k z] = some (cur.toList.set i (.int k z)) := by
      have := stC_mid i cur.toList [.int k z] (by simp at hlc ⊢; omega)
      rw [this, List.set_eq_take_append_cons_drop, if_pos hlc]
      simp
    refine oe_store hx hy hs rfl rfl rfl (cs := cur.toList) (T := T) (by simpa using hg) hst fun w' hs' hb' => h w' ⟨⟨by simp, .inr ⟨g, c, _, rfl, hb, hb', by simpa using h1, h2, by simpa using h3, ?_⟩⟩, by rw [hs'.size]; exact hO.2⟩
      ⟨hs'.os, hs'.tape, hs'.output, Nat.le_of_eq hs'.size.symm, fun j hj => hs'.block j (by omega)⟩ hs'
    simp only [List.length_set, Nat.mul_one] at h4 ⊢
    rw [List.take_set, h4, List.map_set]
theorem Ow.some_of {w : World} {base T c : Nat} {k : IntKind} {A : Option Addr} {L : List Int} (h : Ow w base T k A c L) (hL : 0 < L.length) : ∃ g, A = some ⟨g, 0, none⟩ ∧ base ≤ g ∧ g < w.heap.size := by
  rcases h.1.2 with ⟨hv, hn⟩ | ⟨g, cap, cur, hv, hb, hg, _⟩
  · omega
  · injection hv with hA _ _
    exact ⟨g, hA, hb, lt_of_blk hg⟩
theorem oe_appendR {t e : TypeId} {x y : Operand} {k : IntKind} {A : Option Addr} {c base bytes g o c2 m : Nat} {L M : List Int} {K : Value → World → Prop} (ht : P.underlying t = some (.slice e))
    (hi : (P.info? e).map (fun i => (i.zero, i.size, i.bytes)) = some (some (.int k 0), 1, bytes)) (hx : EV n fr x (.slice A L.length c)) (hy : EV n fr y (.slice (some ⟨g, o, none⟩) m c2))
    (hO : Ow w base e k A c L) (hW : RdI w k (some ⟨g, o, none⟩) M) (hm : M.length = m) (hb : (L.length + m) * bytes ≤ 140737488355328) (hl : L.length + m ≤ 140737488355328)
    (h : ∀ A' c' w', Ow w' base e k A' c' (L ++ M) → Below base w w' → Bt e w w' → K (.slice A' (L ++ M).length c') w') : OE P n (.call { callee := .builtin .append, args := #[x, y], argTypes := #[t, t] }) ty fr w K := by
  cases hin : P.info? e with
  | none => simp [hin] at hi
  | some inf =>
    simp only [hin, Option.map_some, Option.some.injEq, Prod.mk.injEq] at hi
    obtain ⟨h1, h2, h3⟩ := hi
    subst hm
    obtain ⟨v', w', hr, hown, hgr, _⟩ := run_append_own (P := P) w base t ty e inf (.int k 0) 1 bytes ht hin h1 h2 h3 rfl (by decide) (.slice A L.length c) L.length _ hO.1 ⟨g, o, none⟩ M.length c2 (M.map (Value.int k)) (by simp)
      (fun j u hj => by
        have hjl : j < M.length := by have := (List.getElem?_eq_some_iff.1 hj).1; simpa using this
        have ha : (⟨g, o, none⟩ : Addr).add j = ⟨g, o + j, none⟩ := by unfold Addr.add; split <;> simp_all
        rw [ha, hW.cell hjl]
        rw [List.getElem?_map, List.getElem?_eq_getElem hjl] at hj
        simp only [Option.map_some, Option.some.injEq] at hj
        rw [← hj]
        simp [List.getD_eq_getElem?_getD, hjl]) (ints_oneCell k M) (by simp only [maxLen]; omega) hb hO.2
    obtain ⟨A', c', rfl⟩ := own_slice hown
    have hO' : Ow w' base e k A' c' (L ++ M) := by
      unfold Ow
      rw [List.length_append, List.map_append]
      exact ⟨hown, Nat.le_trans hO.2 hgr.size⟩
    have hr' : (Builtin.append_ #[t, t] ty #[.slice A L.length c, .slice (some ⟨g, o, none⟩) M.length c2]).run P w = .ok (.slice A' (L ++ M).length c') w' := by rw [List.length_append]; exact hr
    refine OE.of_run (fun _ _ _ _ => ?_) (h A' c' w' hO' (below_of_grown hgr hO.2 (own_row_ge hO.1)) (bt_of_grown hO hgr))
    unfold EV at hx hy
    simp only [execOp, resolve, invoke, builtin, hx, hy, hr', List.map_toArray, List.map_cons, List.map_nil, Sem.run_bind, Sem.run_pure, Result.andThen_ok]
end
structure CmpOk (P : Program) (gn : Nat) (cb : Array Value) (V : Int → Prop) (cf : Int → Int → Int) (g : Nat) (w0 : World) : Prop where
  ok : callOk P gn = true
  call : ∀ w' x y, V x → V y → Bx g w0 w' → Ct P gn ([.int .i64 x, .int .i64 y] ++ cb.toList) w' fun v w'' => v = .int .i64 (cf x y) ∧ Ext w' w''
theorem Ow.self {w : World} {base T c g : Nat} {k : IntKind} {L : List Int} (h : Ow w base T k (some ⟨g, 0, none⟩) c L) : Ow w g T k (some ⟨g, 0, none⟩) c L := by
  have hlt := h.lt g 0 rfl
  obtain ⟨⟨h1, h2⟩, h3⟩ := h
  refine ⟨⟨h1, ?_⟩, Nat.le_of_lt hlt⟩
  rcases h2 with ⟨hv, _⟩ | ⟨g2, cap, cur, hv, hb, hg, r⟩
  · injection hv with h1 _ _; cases h1
  · have hv2 := hv
    injection hv2 with hA _ _
    injection hA with hA
    injection hA with hA _ _
    subst hA
    exact .inr ⟨g, cap, cur, hv, Nat.le_refl _, hg, r⟩
theorem Ow.blk0 {w : World} {base T c g : Nat} {k : IntKind} {L : List Int} (h : Ow w base T k (some ⟨g, 0, none⟩) c L) : ∃ cs, w.heap[g]? = some (.cells cs T (0, 0)) := by
  rcases h.1.2 with ⟨hv, _⟩ | ⟨g2, cap, cur, hv, hb, hg, r⟩
  · injection hv with h1 _ _; cases h1
  · injection hv with hA _ _
    injection hA with hA
    injection hA with hA _ _
    subst hA
    exact ⟨cur, hg⟩
theorem blk_ne {w : World} {a b T T' : Nat} {cs cs' : Array Value} {fz fz' : Nat × Nat} (h : w.heap[a]? = some (.cells cs T fz)) (h2 : w.heap[b]? = some (.cells cs' T' fz')) (hT : T ≠ T') : a ≠ b := fun he => by
  subst he
  rw [h] at h2
  injection h2 with h2
  injection h2 with _ h2 _
  exact hT h2
theorem Ow.lower {w : World} {base T c g : Nat} {k : IntKind} {L : List Int} (h : Ow w g T k (some ⟨g, 0, none⟩) c L) (hb : base ≤ g) : Ow w base T k (some ⟨g, 0, none⟩) c L := h.mono hb
theorem Num.bt {m T T1 s l c : Nat} {k : IntKind} {w w' : World} {neg : Bool} {A : Option Addr} {z : Int} (h : Num m T k w neg A l c z s) (e : Bt T1 w w') (hT : T ≠ T1) : Num m T k w' neg A l c z s := by
  obtain ⟨xs, h1, h2, h3, h4⟩ := h
  exact ⟨xs, h1, h2, h3.bt e hT, h4⟩
theorem bt_blkT {T T' b : Nat} {w w' : World} {cs : Array Value} {fz : Nat × Nat} (e : Bt T w w') (h : w.heap[b]? = some (.cells cs T' fz)) (hT : T' ≠ T) : w'.heap[b]? = some (.cells cs T' fz) :=
  e.keep _ _ h fun cs' fz' he => by injection he with _ h2 _; exact hT h2
def slA1 (A : Option Addr) (i c : Nat) : Option Addr := if c = i then A else A.map (·.add i)
theorem slA1_at {g i c : Nat} : ∃ o, slA1 (some ⟨g, 0, none⟩) i c = some ⟨g, o, none⟩ := by
  unfold slA1; split
  · exact ⟨0, rfl⟩
  · exact ⟨0 + i, by rw [Option.map_some, addr_addn]⟩
theorem Ow.rdDrop {w : World} {base T c g i : Nat} {L : List Int} (h : Ow w base T .i64 (some ⟨g, 0, none⟩) c L) (hi : i ≤ L.length) : RdI w .i64 (slA1 (some ⟨g, 0, none⟩) i c) (L.drop i) := by
  have hcap := h.cap
  unfold slA1
  split
  · exact .inl (by rw [List.drop_of_length_le (by omega)]; rfl)
  · rcases h.wd.rdI with h0 | ⟨g2, off, T2, cs, fz, hA, hg, hc⟩
    · exact .inl (by rw [List.map_eq_nil_iff] at h0 ⊢; rw [h0]; simp)
    · injection hA with hA
      injection hA with hA ho _
      subst hA; subst ho
      refine .inr ⟨g, 0 + i, T2, cs, fz, by rw [Option.map_some, addr_addn], hg, fun j v hj => ?_⟩
      rw [Nat.add_assoc]
      refine hc (i + j) v ?_
      rw [List.map_drop, List.getElem?_drop] at hj
      exact hj
theorem Ow.rdTake {w : World} {base T c i : Nat} {A : Option Addr} {L : List Int} (h : Ow w base T .i64 A c L) : RdI w .i64 A (L.take i) := by
  rcases h.wd.rdI with h0 | ⟨g2, off, T2, cs, fz, hA, hg, hc⟩
  · exact .inl (by rw [List.map_eq_nil_iff] at h0 ⊢; rw [h0]; simp)
  · refine .inr ⟨g2, off, T2, cs, fz, hA, hg, fun j v hj => hc j v ?_⟩
    rw [List.map_take, List.getElem?_take] at hj
    split at hj
    · exact hj
    · cases hj
def SymP (P : Program) (no T gn : Nat) (cb : Array Value) (V : Int → Prop) (cf : Int → Int → Int) (g l c d : Nat) : Prop :=
  ∀ (w : World) (L : List Int) (a m b : Nat) (xa xm xb : Int), b - a ≤ d → Ow w g T .i64 (some ⟨g, 0, none⟩) c L → L.length = l → CmpOk P gn cb V cf g w → (∀ k, k < l → V (gF L k)) → inj (gF L) a b → a < m → m < b → b ≤ l → srt cf (gF L) a m → srt cf (gF L) m b → xa = (a : Int) → xm = (m : Int) → xb = (b : Int) →
    Ct P no [.slice (some ⟨g, 0, none⟩) l c, .int .i64 xa, .int .i64 xm, .int .i64 xb, .func (.func gn) #[] cb] w fun v w1 => ∃ M, v = .tuple #[] ∧ Bx g w w1 ∧ Ow w1 g T .i64 (some ⟨g, 0, none⟩) c M ∧ M.length = l ∧ PM a b (gF L) (gF M) ∧ srt cf (gF M) a b
section
variable {P : Program} {n : Nat} {fr : Fr} {w : World} {ty : TypeId}
theorem CmpOk.bx {gn : Nat} {cb : Array Value} {V : Int → Prop} {cf : Int → Int → Int} {g : Nat} {w0 w1 : World} (h : CmpOk P gn cb V cf g w0) (e : Bx g w0 w1) : CmpOk P gn cb V cf g w1 := ⟨h.ok, fun w' x y hx hy h2 => h.call w' x y hx hy (e.trans h2)⟩
theorem oe_callc {g : Nat} {cb : Array Value} {x : Operand} {args : Array Operand} {tys : Array TypeId} {vs : List Value} {R : Value → World → Prop} {K : Value → World → Prop} (hx : EV n fr x (.func (.func g) #[] cb)) (hg : callOk P g = true) (ha : args.map (actOf n fr).eval = vs.toArray)
    (h : Ct P g (vs ++ cb.toList) w R) (hK : ∀ v w', R v w' → K v w') : OE P n (.call { callee := .value x, args := args, argTypes := tys }) ty fr w K := by
  intro dst pos af gd Kk Q hk
  have hf : ∃ fn, P.funcs[g]? = some fn ∧ fn.name ≠ "runtime.NumGoroutine" ∧ fn.body ≠ none := by
    unfold callOk at hg
    split at hg
    · rename_i fn hfn
      refine ⟨fn, hfn, ?_, ?_⟩
      · simp only [Bool.and_eq_true, bne_iff_ne] at hg; exact hg.1
      · simp only [Bool.and_eq_true] at hg; intro hbd; rw [hbd] at hg; exact absurd hg.2 (by simp)
    · cases hg
  obtain ⟨fn, hfn, hnm, hbd⟩ := hf
  have hrun : (execOp (actOf n fr).eval ⟨dst, .call { callee := .value x, args := args, argTypes := tys }, ty, pos, af, gd⟩).run P w = .ok (.enter g (vs ++ cb.toList).toArray) w := by
    have hev : (actOf n fr).eval x = .func (.func g) #[] cb := hx
    simp [execOp, resolve, hev, Deferred.ofValue, invoke, callFunc, hfn, hnm, hbd, ha]
  unfold Oper.wp
  rw [hrun]
  show Calls P g (vs ++ cb.toList).toArray w _
  refine Calls.mono h fun e w' ⟨v, he, hv⟩ => ?_
  subst he
  show Kk ((actOf n fr).put dst v) w'
  rw [actOf_put]
  exact hk v w' (hK v w' hv)
theorem dv_sliceL1 {t e : TypeId} {x a : Operand} {A : Option Addr} {l c i : Nat} {k : IntKind} {j : Int} (ht : P.underlying t = some (.slice e)) (hs : sizeB P e = some 1)
    (hx : EV n fr x (.slice A l c)) (ha : EV n fr a (.int k j)) (hj : j = (i : Nat)) (h1 : i ≤ l) : DV P n (.slice t x (some a) none none) ty fr w (.slice (slA1 A i c) (l - i) (c - i)) := fun _ _ _ _ => by
  subst hj
  unfold EV at hx ha
  unfold sizeB at hs
  cases hin : P.info? e with
  | none => simp [hin] at hs
  | some inf =>
    have hsz : inf.size = 1 := by simpa [hin] using hs
    have h2 : (i : Int) ≤ (l : Int) := by omega
    have h3 : (0 : Int) ≤ (i : Int) := by omega
    simp [execOp, hx, ha, Instr.sliceAt, underlying, ht, Instr.slice, Instr.sliceBounds, Instr.sliceBound, asIntOf, h1, h2, h3, sizeOf, typeInfo, hin, hsz, slA1]
theorem oe_appendO {t e : TypeId} {x y : Operand} {k : IntKind} {A A2 : Option Addr} {c base bytes c2 m : Nat} {L M : List Int} {K : Value → World → Prop} (ht : P.underlying t = some (.slice e))
    (hi : (P.info? e).map (fun i => (i.zero, i.size, i.bytes)) = some (some (.int k 0), 1, bytes)) (hx : EV n fr x (.slice A L.length c)) (hy : EV n fr y (.slice A2 m c2))
    (hO : Ow w base e k A c L) (hA : ∃ g o, A2 = some ⟨g, o, none⟩) (hW : RdI w k A2 M) (hm : M.length = m) (hb : (L.length + m) * bytes ≤ 140737488355328) (hl : L.length + m ≤ 140737488355328)
    (h : ∀ A' c' w', Ow w' base e k A' c' (L ++ M) → Below base w w' → Bt e w w' → K (.slice A' (L ++ M).length c') w') : OE P n (.call { callee := .builtin .append, args := #[x, y], argTypes := #[t, t] }) ty fr w K := by
  obtain ⟨g, o, rfl⟩ := hA
  exact oe_appendR ht hi hx hy hO hW hm hb hl h
theorem dv_makeFunc {g : Nat} {cs : Array Operand} {vs : List Value} (ha : cs.map (actOf n fr).eval = vs.toArray) : DV P n (.makeFunc (.func g) #[] cs) ty fr w (.func (.func g) #[] vs.toArray) := fun _ _ _ _ => by
  simp [execOp, ha, Instr.makeFunc]
theorem ar5 {a b c d e : Operand} {v u x y z : Value} (h : EV n fr a v) (h2 : EV n fr b u) (h3 : EV n fr c x) (h4 : EV n fr d y) (h5 : EV n fr e z) : (#[a, b, c, d, e] : Array Operand).map (actOf n fr).eval = [v, u, x, y, z].toArray := by unfold EV at h h2 h3 h4 h5; simp [h, h2, h3, h4, h5]
end
end Go.Proofs.Ytmbpomcbdopgnaa.Fw
namespace Go.Proofs.Ytmbpomcbdopgnaa.Fw
def dX (xs : List Int) (i : Nat) : Int := xs.getD (i * 4 + 2) 0 - xs.getD (i * 4) 0
def dY (xs : List Int) (i : Nat) : Int := xs.getD (i * 4 + 3) 0 - xs.getD (i * 4 + 1) 0
def hN (ax ay bx b_y x u : Int) : Int := ay * (bx - ax) * u + (x - ax * u) * (b_y - ay)
def hX (xs : List Int) (x u : Int) (i : Nat) : Int := hN (xs.getD (i * 4) 0) (xs.getD (i * 4 + 1) 0) (xs.getD (i * 4 + 2) 0) (xs.getD (i * 4 + 3) 0) x u
def stS (xs : List Int) (x u : Int) (i : Nat) : Prop := xs.getD (i * 4) 0 * u ≤ x ∧ x < xs.getD (i * 4 + 2) 0 * u
instance (xs : List Int) (x u : Int) (i : Nat) : Decidable (stS xs x u i) := by unfold stS; infer_instance
def cfA (xs : List Int) (x u : Int) (i k : Nat) : Int := hX xs x u i * dX xs k - hX xs x u k * dX xs i
def cfB (xs : List Int) (i k : Nat) : Int := dY xs i * dX xs k - dY xs k * dX xs i
def orV (a b c : Int) : Int := if a ≠ 0 then a else if b ≠ 0 then b else c
def cfN (xs : List Int) (x u : Int) (i k : Nat) : Int := orV (sgnI (cfA xs x u i k)) (sgnI (cfB xs i k)) ((i : Int) - (k : Int))
def cfV (xs : List Int) (x u : Int) (a b : Int) : Int := cfN xs x u a.toNat b.toNat
def stV (l : Nat) (xs : List Int) (x u : Int) (z : Int) : Prop := ∃ i : Nat, z = (i : Int) ∧ i < l ∧ stS xs x u i
theorem sgn_lt {n : Int} : sgnI n < 0 ↔ n < 0 := sgnI_lt
theorem sgn_eq {n : Int} : sgnI n = 0 ↔ n = 0 := sgnI_zero
theorem cfN_lt {xs : List Int} {x u : Int} {i k : Nat} : cfN xs x u i k < 0 ↔ cfA xs x u i k < 0 ∨ (cfA xs x u i k = 0 ∧ (cfB xs i k < 0 ∨ (cfB xs i k = 0 ∧ i < k))) := by
  unfold cfN orV
  by_cases h1 : cfA xs x u i k = 0
  · rw [if_neg (by rw [Ne, sgn_eq]; omega)]
    by_cases h2 : cfB xs i k = 0
    · rw [if_neg (by rw [Ne, sgn_eq]; omega)]; omega
    · rw [if_pos (by rw [Ne, sgn_eq]; exact h2), sgn_lt]; omega
  · rw [if_pos (by rw [Ne, sgn_eq]; exact h1), sgn_lt]; omega
theorem cm_le {a1 b1 a2 b2 a3 b3 : Int} (h1 : 0 < b1) (h2 : 0 < b2) (h3 : 0 < b3) (ha : a1 * b2 ≤ a2 * b1) (hb : a2 * b3 ≤ a3 * b2) : a1 * b3 ≤ a3 * b1 := by
  refine Int.le_of_mul_le_mul_right ?_ h2
  have k1 := Int.mul_le_mul_of_nonneg_right ha (Int.le_of_lt h3)
  have k2 := Int.mul_le_mul_of_nonneg_right hb (Int.le_of_lt h1)
  have e1 : a1 * b3 * b2 = a1 * b2 * b3 := Int.mul_right_comm ..
  have e2 : a2 * b1 * b3 = a2 * b3 * b1 := Int.mul_right_comm ..
  have e3 : a3 * b1 * b2 = a3 * b2 * b1 := Int.mul_right_comm ..
  omega
theorem cm_lt {a1 b1 a2 b2 a3 b3 : Int} (h1 : 0 < b1) (h2 : 0 < b2) (h3 : 0 < b3) (ha : a1 * b2 ≤ a2 * b1) (hb : a2 * b3 ≤ a3 * b2) (hs : a1 * b2 < a2 * b1 ∨ a2 * b3 < a3 * b2) : a1 * b3 < a3 * b1 := by
  refine Int.lt_of_mul_lt_mul_right ?_ (Int.le_of_lt h2)
  have k1 := Int.mul_le_mul_of_nonneg_right ha (Int.le_of_lt h3)
  have k2 := Int.mul_le_mul_of_nonneg_right hb (Int.le_of_lt h1)
  have e1 : a1 * b3 * b2 = a1 * b2 * b3 := Int.mul_right_comm ..
  have e2 : a2 * b1 * b3 = a2 * b3 * b1 := Int.mul_right_comm ..
  have e3 : a3 * b1 * b2 = a3 * b2 * b1 := Int.mul_right_comm ..
  rcases hs with hs | hs
  · have k3 := Int.mul_lt_mul_of_pos_right hs h3
    omega
  · have k3 := Int.mul_lt_mul_of_pos_right hs h1
    omega
theorem stS_dX {xs : List Int} {x u : Int} {i : Nat} (hu : 0 < u) (h : stS xs x u i) : 0 < dX xs i := by
  have h1 : xs.getD (i * 4) 0 * u < xs.getD (i * 4 + 2) 0 * u := by have := h.1; have := h.2; omega
  have := Int.lt_of_mul_lt_mul_right h1 (Int.le_of_lt hu)
  unfold dX; omega
theorem cfN_asym {xs : List Int} {x u : Int} {i k : Nat} (h : cfN xs x u i k < 0) : ¬ cfN xs x u k i < 0 := by
  rw [cfN_lt] at h ⊢
  unfold cfA cfB at h ⊢
  omega
theorem cfN_trans {xs : List Int} {x u : Int} {i k m : Nat} (hi : 0 < dX xs i) (hk : 0 < dX xs k) (hm : 0 < dX xs m) (h1 : cfN xs x u i k < 0) (h2 : cfN xs x u k m < 0) : cfN xs x u i m < 0 := by
  rw [cfN_lt] at h1 h2 ⊢
  unfold cfA cfB at h1 h2 ⊢
  have A1 : hX xs x u i * dX xs k ≤ hX xs x u k * dX xs i := by omega
  have A2 : hX xs x u k * dX xs m ≤ hX xs x u m * dX xs k := by omega
  have A3 := cm_le hi hk hm A1 A2
  by_cases s1 : hX xs x u i * dX xs k < hX xs x u k * dX xs i ∨ hX xs x u k * dX xs m < hX xs x u m * dX xs k
  · have := cm_lt hi hk hm A1 A2 s1; omega
  · have A4 := cm_le hm hk hi (a1 := hX xs x u m) (a2 := hX xs x u k) (a3 := hX xs x u i) (by omega) (by omega)
    have B1 : dY xs i * dX xs k ≤ dY xs k * dX xs i := by omega
    have B2 : dY xs k * dX xs m ≤ dY xs m * dX xs k := by omega
    have B3 := cm_le hi hk hm B1 B2
    by_cases s2 : dY xs i * dX xs k < dY xs k * dX xs i ∨ dY xs k * dX xs m < dY xs m * dX xs k
    · have := cm_lt hi hk hm B1 B2 s2; omega
    · have B4 := cm_le hm hk hi (a1 := dY xs m) (a2 := dY xs k) (a3 := dY xs i) (by omega) (by omega)
      omega
theorem cfN_tot {xs : List Int} {x u : Int} {i k : Nat} (h : i ≠ k) : cfN xs x u i k < 0 ∨ cfN xs x u k i < 0 := by
  rw [cfN_lt, cfN_lt]
  unfold cfA cfB
  omega
theorem stTO {l : Nat} {xs : List Int} {x u : Int} (hu : 0 < u) : TO (stV l xs x u) (cfV xs x u) := by
  refine ⟨?_, ?_, ?_⟩
  · rintro _ _ ⟨i, rfl, _, _⟩ ⟨k, rfl, _, _⟩ h
    exact cfN_asym h
  · rintro _ _ _ ⟨i, rfl, _, h1⟩ ⟨k, rfl, _, h2⟩ ⟨m, rfl, _, h3⟩ h4 h5
    exact cfN_trans (stS_dX hu h1) (stS_dX hu h2) (stS_dX hu h3) h4 h5
  · rintro _ _ ⟨i, rfl, _, _⟩ ⟨k, rfl, _, _⟩ h
    exact cfN_tot (xs := xs) (x := x) (u := u) (i := i) (k := k) (by omega)
def stL (xs : List Int) (x u : Int) : Nat → List Int
  | 0 => []
  | k + 1 => if stS xs x u k then stL xs x u k ++ [(k : Int)] else stL xs x u k
def insL (cf : Int → Int → Int) (z : Int) : List Int → List Int
  | [] => [z]
  | y :: r => if cf y z < 0 then y :: insL cf z r else z :: y :: r
def stI (xs : List Int) (x u : Int) : Nat → List Int
  | 0 => []
  | k + 1 => if stS xs x u k then insL (cfV xs x u) (k : Int) (stI xs x u k) else stI xs x u k
theorem stL_t {xs : List Int} {x u : Int} {k : Nat} (h : stS xs x u k) : stL xs x u k ++ [(k : Int)] = stL xs x u (k + 1) := by rw [stL, if_pos h]
theorem stL_f {xs : List Int} {x u : Int} {k : Nat} (h : ¬ stS xs x u k) : stL xs x u k = stL xs x u (k + 1) := by rw [stL, if_neg h]
theorem stI_t {xs : List Int} {x u : Int} {k : Nat} (h : stS xs x u k) : insL (cfV xs x u) (k : Int) (stI xs x u k) = stI xs x u (k + 1) := by rw [stI, if_pos h]
theorem stI_f {xs : List Int} {x u : Int} {k : Nat} (h : ¬ stS xs x u k) : stI xs x u k = stI xs x u (k + 1) := by rw [stI, if_neg h]
theorem stL_mem {xs : List Int} {x u : Int} {k : Nat} {z : Int} : z ∈ stL xs x u k ↔ stV k xs x u z := by
  induction k with
  | zero => simp [stL, stV]
  | succ k ih =>
    unfold stL
    by_cases h : stS xs x u k
    · rw [if_pos h, List.mem_append, ih, List.mem_singleton]
      constructor
      · rintro (⟨i, h1, h2, h3⟩ | h1)
        · exact ⟨i, h1, by omega, h3⟩
        · exact ⟨k, h1, by omega, h⟩
      · rintro ⟨i, h1, h2, h3⟩
        by_cases hk : i = k
        · exact .inr (by rw [h1, hk])
        · exact .inl ⟨i, h1, by omega, h3⟩
    · rw [if_neg h, ih]
      constructor
      · rintro ⟨i, h1, h2, h3⟩; exact ⟨i, h1, by omega, h3⟩
      · rintro ⟨i, h1, h2, h3⟩
        by_cases hk : i = k
        · subst hk; exact absurd h3 h
        · exact ⟨i, h1, by omega, h3⟩
theorem stL_len (xs : List Int) (x u : Int) (k : Nat) : (stL xs x u k).length ≤ k := by
  induction k with
  | zero => simp [stL]
  | succ k ih => unfold stL; split
                 · simp; omega
                 · omega
theorem stL_pw {xs : List Int} {x u : Int} {k : Nat} : (stL xs x u k).Pairwise (· < ·) := by
  induction k with
  | zero => simp [stL]
  | succ k ih =>
    unfold stL; split
    · rw [List.pairwise_append]
      refine ⟨ih, List.pairwise_singleton _ _, fun a ha b hb => ?_⟩
      obtain ⟨i, h1, h2, _⟩ := stL_mem.1 ha
      rw [List.mem_singleton] at hb
      omega
    · exact ih
theorem insL_mem {cf : Int → Int → Int} {z y : Int} : ∀ {L : List Int}, y ∈ insL cf z L ↔ y = z ∨ y ∈ L
  | [] => by simp [insL]
  | a :: r => by
    unfold insL; split
    · rw [List.mem_cons, insL_mem, List.mem_cons]; constructor
      · rintro (h | h | h) <;> simp [h]
      · rintro (h | h | h) <;> simp [h]
    · simp
theorem insL_len {cf : Int → Int → Int} {z : Int} : ∀ {L : List Int}, (insL cf z L).length = L.length + 1
  | [] => rfl
  | a :: r => by unfold insL; split <;> simp [insL_len (L := r)]
theorem stI_mem {xs : List Int} {x u : Int} {k : Nat} {z : Int} : z ∈ stI xs x u k ↔ z ∈ stL xs x u k := by
  induction k with
  | zero => simp [stI, stL]
  | succ k ih =>
    unfold stI stL
    by_cases h : stS xs x u k
    · rw [if_pos h, if_pos h, insL_mem, ih, List.mem_append, List.mem_singleton]; exact Or.comm
    · rw [if_neg h, if_neg h, ih]
theorem stI_len (xs : List Int) (x u : Int) (k : Nat) : (stI xs x u k).length ≤ k := by
  induction k with
  | zero => simp [stI]
  | succ k ih => unfold stI; split
                 · rw [insL_len]; omega
                 · omega
theorem insL_pw {V : Int → Prop} {cf : Int → Int → Int} (hO : TO V cf) {z : Int} (hz : V z) : ∀ {L : List Int}, (∀ y ∈ L, V y) → z ∉ L → L.Pairwise (fun a b => cf a b < 0) → (insL cf z L).Pairwise (fun a b => cf a b < 0)
  | [], _, _, _ => by simp [insL]
  | a :: r, hV, hn, hp => by
    rw [List.pairwise_cons] at hp
    have ha := hV a (by simp)
    unfold insL; split
    · rename_i h
      rw [List.pairwise_cons]
      refine ⟨fun b hb => ?_, insL_pw hO hz (fun y hy => hV y (List.mem_cons_of_mem _ hy)) (fun hh => hn (List.mem_cons_of_mem _ hh)) hp.2⟩
      rcases insL_mem.1 hb with rfl | hb
      · exact h
      · exact hp.1 b hb
    · rename_i h
      have hza : cf z a < 0 := by
        rcases hO.tot z a hz ha (fun e => hn (by rw [e]; simp)) with h1 | h1
        · exact h1
        · exact absurd h1 h
      rw [List.pairwise_cons]
      refine ⟨fun b hb => ?_, List.pairwise_cons.2 hp⟩
      rcases List.mem_cons.1 hb with rfl | hb
      · exact hza
      · exact hO.trans _ _ _ hz ha (hV b (List.mem_cons_of_mem _ hb)) hza (hp.1 b hb)
theorem stI_pw {xs : List Int} {x u : Int} (hu : 0 < u) {k : Nat} : (stI xs x u k).Pairwise (fun a b => cfV xs x u a b < 0) := by
  induction k with
  | zero => simp [stI]
  | succ k ih =>
    unfold stI; split
    · rename_i h
      refine insL_pw (stTO (l := k + 1) hu) ⟨k, rfl, by omega, h⟩ (fun y hy => ?_) (fun hh => ?_) ih
      · obtain ⟨i, h1, h2, h3⟩ := stL_mem.1 (stI_mem.1 hy); exact ⟨i, h1, by omega, h3⟩
      · obtain ⟨i, h1, h2, h3⟩ := stL_mem.1 (stI_mem.1 hh); omega
    · exact ih
theorem insL_at {cf : Int → Int → Int} {z : Int} : ∀ {L : List Int} {at_ : Nat}, at_ ≤ L.length → (∀ q, q < at_ → cf (L.getD q 0) z < 0) → (at_ = L.length ∨ ¬ cf (L.getD at_ 0) z < 0) → insL cf z L = L.take at_ ++ [z] ++ L.drop at_
  | [], at_, h1, h2, h3 => by have : at_ = 0 := by simpa using h1
                              subst this; simp [insL]
  | a :: r, 0, h1, h2, h3 => by
    have : ¬ cf a z < 0 := by rcases h3 with h3 | h3; · simp at h3
                              · simpa using h3
    simp [insL, this]
  | a :: r, at_ + 1, h1, h2, h3 => by
    have h0 : cf a z < 0 := by simpa using h2 0 (by omega)
    have ih := insL_at (cf := cf) (z := z) (L := r) (at_ := at_) (by simpa using h1) (fun q hq => by simpa using h2 (q + 1) (by omega)) (by rcases h3 with h3 | h3 <;> first | exact .inl (by simpa using h3) | exact .inr (by simpa using h3))
    rw [insL, if_pos h0, ih]; simp
theorem sort_uniq {xs : List Int} {x u : Int} (hu : 0 < u) {l : Nat} {M : List Int} (hl : M.length = (stL xs x u l).length) (hP : PM 0 (stL xs x u l).length (gF (stL xs x u l)) (gF M)) (hS : srt (cfV xs x u) (gF M) 0 (stL xs x u l).length) : M = stI xs x u l := by
  have hpm : M.Pairwise (fun a b => cfV xs x u a b < 0) := by
    rw [List.pairwise_iff_getElem]
    intro i j hi hj hij
    have := hS i j (Nat.zero_le _) hij (by omega)
    unfold gF at this
    simpa [List.getD_eq_getElem?_getD, hi, hj] using this
  have hmem : ∀ z, z ∈ M ↔ z ∈ stI xs x u l := by
    intro z
    rw [stI_mem]
    obtain ⟨s, t, h3⟩ := hP
    constructor
    · intro hz
      obtain ⟨k, hk, rfl⟩ := List.mem_iff_getElem.1 hz
      have h4 := h3.inr (k := k) (Nat.zero_le _) (by omega)
      have h5 := h3.fg k
      unfold gF at h5
      simp only [List.getD_eq_getElem?_getD, List.getElem?_eq_getElem hk, List.getElem?_eq_getElem h4.2, Option.getD_some] at h5
      rw [h5]; exact List.getElem_mem _
    · intro hz
      obtain ⟨k, hk, rfl⟩ := List.mem_iff_getElem.1 hz
      have htk : t k < (stL xs x u l).length := by
        by_cases h6 : t k < (stL xs x u l).length
        · exact h6
        · have h7 := h3.out (t k) (.inr (by omega)); rw [h3.st] at h7; omega
      have h5 := h3.fg (t k)
      rw [h3.st] at h5
      unfold gF at h5
      simp only [List.getD_eq_getElem?_getD, List.getElem?_eq_getElem hk, List.getElem?_eq_getElem (show t k < M.length by omega), Option.getD_some] at h5
      rw [← h5]; exact List.getElem_mem _
  have hVm : ∀ z, z ∈ stI xs x u l → stV l xs x u z := fun z hz => stL_mem.1 (stI_mem.1 hz)
  have hO := stTO (l := l) (xs := xs) (x := x) hu
  have nd : ∀ {L : List Int}, (∀ z ∈ L, stV l xs x u z) → L.Pairwise (fun a b => cfV xs x u a b < 0) → L.Nodup := fun hV hp => by
    refine List.Pairwise.imp_of_mem (fun {a b} ha hb hab he => ?_) hp
    subst he
    exact hO.asym a a (hV a ha) (hV a ha) hab hab
  refine List.Perm.eq_of_pairwise (le := fun a b : Int => cfV xs x u a b < 0) (fun a b ha hb h1 h2 => absurd h2 (hO.asym _ _ (hVm a ((hmem a).1 ha)) (hVm b hb) h1)) hpm (stI_pw hu) ((List.perm_ext_iff_of_nodup (nd (fun z hz => hVm z ((hmem z).1 hz)) hpm) (nd hVm (stI_pw hu))).2 hmem)
theorem stL_inj {xs : List Int} {x u : Int} {l : Nat} : inj (gF (stL xs x u l)) 0 (stL xs x u l).length := by
  intro i j _ hij hj
  have := List.pairwise_iff_getElem.1 (stL_pw (xs := xs) (x := x) (u := u) (k := l)) i j (by omega) hj hij
  unfold gF
  simp only [List.getD_eq_getElem?_getD, List.getElem?_eq_getElem hj, List.getElem?_eq_getElem (show i < (stL xs x u l).length by omega), Option.getD_some]
  omega
theorem stL_V {xs : List Int} {x u : Int} {l : Nat} : ∀ k, k < (stL xs x u l).length → stV l xs x u (gF (stL xs x u l) k) := fun k hk => by
  unfold gF
  rw [List.getD_eq_getElem?_getD, List.getElem?_eq_getElem hk, Option.getD_some]
  exact stL_mem.1 (List.getElem_mem _)
theorem stS_t {xs : List Int} {x u : Int} {i : Nat} (h1 : 0 ≤ sgnI (x - xs.getD (i * 4) 0 * u)) (h2 : sgnI (x - xs.getD (i * 4 + 2) 0 * u) < 0) : stS xs x u i := by
  rw [sgnI_lt] at h2
  have h3 : ¬ sgnI (x - xs.getD (i * 4) 0 * u) < 0 := by omega
  rw [sgnI_lt] at h3
  unfold stS; omega
theorem stS_f1 {xs : List Int} {x u : Int} {i : Nat} (hu : 0 < u) (h1 : ¬ xs.getD (i * 4) 0 < xs.getD (i * 4 + 2) 0) : ¬ stS xs x u i := fun h => by
  have := stS_dX hu h
  unfold dX at this; omega
theorem stS_f2 {xs : List Int} {x u : Int} {i : Nat} (h1 : ¬ 0 ≤ sgnI (x - xs.getD (i * 4) 0 * u)) : ¬ stS xs x u i := fun h => by
  have h3 : sgnI (x - xs.getD (i * 4) 0 * u) < 0 := by omega
  rw [sgnI_lt] at h3
  have := h.1; omega
theorem stS_f3 {xs : List Int} {x u : Int} {i : Nat} (h1 : ¬ sgnI (x - xs.getD (i * 4 + 2) 0 * u) < 0) : ¬ stS xs x u i := fun h => by
  rw [sgnI_lt] at h1
  have := h.2; omega
theorem stL_V2 {xs : List Int} {x u : Int} {i l : Nat} {L : List Int} (hL : L = stL xs x u i) (hi : i = l) : ∀ k, k < L.length → stV l xs x u (gF L k) := by subst hi; subst hL; exact stL_V
theorem stL_inj2 {xs : List Int} {x u : Int} {i : Nat} {L : List Int} (hL : L = stL xs x u i) : inj (gF L) 0 L.length := by subst hL; exact stL_inj
theorem sort_uniq2 {xs : List Int} {x u : Int} {i l : Nat} {L M : List Int} (hu : 0 < u) (hL : L = stL xs x u i) (hi : i = l) (hl : M.length = L.length) (hP : PM 0 L.length (gF L) (gF M)) (hS : srt (cfV xs x u) (gF M) 0 L.length) : M = stI xs x u l := by
  subst hi; subst hL; exact sort_uniq hu hl hP hS
def hS (ax ay bx b_y x u : Int) : Int := ay * (bx - ax) * u + (b_y - ay) * (x - ax * u)
theorem hS_eq (ax ay bx b_y x u : Int) : hS ax ay bx b_y x u = hN ax ay bx b_y x u := by unfold hS hN; rw [Int.mul_comm (b_y - ay)]
theorem sgnI_pos_mul {k n : Int} (hk : 0 < k) : sgnI (k * n) = sgnI n := by
  rcases Int.lt_trichotomy n 0 with h | h | h
  · have h1 : k * n < 0 := Int.mul_neg_of_pos_of_neg hk h
    unfold sgnI; rw [if_pos h1, if_pos h]
  · subst h; simp
  · have h1 : 0 < k * n := Int.mul_pos hk h
    unfold sgnI; rw [if_neg (by omega), if_pos h1, if_neg (by omega), if_pos h]
theorem sgn_pt {a b w c d v : Int} (hw : 0 < w) (hv : 0 < v) : sgnI (pPt a b w b * pPt c d v v - pPt c d v d * pPt a b w w) = sgnI (b * v - d * w) := by
  unfold pPt
  rw [if_neg (by omega), if_neg (by omega), if_neg (by omega), if_neg (by omega)]
  have g1 := gI3_pos (x := a) (y := b) (w := w) (by omega)
  have g2 := gI3_pos (x := c) (y := d) (w := v) (by omega)
  obtain ⟨b1, e1⟩ := gI3_dy a b w
  obtain ⟨w1, e2⟩ := gI3_dw a b w
  obtain ⟨d1, e3⟩ := gI3_dy c d v
  obtain ⟨v1, e4⟩ := gI3_dw c d v
  generalize gI3 a b w = p at *
  generalize gI3 c d v = q at *
  subst e1 e2 e3 e4
  rw [Int.mul_ediv_cancel_left _ (by omega), Int.mul_ediv_cancel_left _ (by omega), Int.mul_ediv_cancel_left _ (by omega), Int.mul_ediv_cancel_left _ (by omega)]
  have : p * b1 * (q * v1) - q * d1 * (p * w1) = (p * q) * (b1 * v1 - d1 * w1) := by grind
  rw [this, sgnI_pos_mul (Int.mul_pos g1 g2)]
theorem sgn_hS {xs : List Int} {x u : Int} {i k : Nat} (hu : 0 < u) (hi : 0 < dX xs i) (hk : 0 < dX xs k) :
    sgnI (pPt (x * (xs.getD (i * 4 + 2) 0 - xs.getD (i * 4) 0)) (hS (xs.getD (i * 4) 0) (xs.getD (i * 4 + 1) 0) (xs.getD (i * 4 + 2) 0) (xs.getD (i * 4 + 3) 0) x u) (u * (xs.getD (i * 4 + 2) 0 - xs.getD (i * 4) 0)) (hS (xs.getD (i * 4) 0) (xs.getD (i * 4 + 1) 0) (xs.getD (i * 4 + 2) 0) (xs.getD (i * 4 + 3) 0) x u) *
        pPt (x * (xs.getD (k * 4 + 2) 0 - xs.getD (k * 4) 0)) (hS (xs.getD (k * 4) 0) (xs.getD (k * 4 + 1) 0) (xs.getD (k * 4 + 2) 0) (xs.getD (k * 4 + 3) 0) x u) (u * (xs.getD (k * 4 + 2) 0 - xs.getD (k * 4) 0)) (u * (xs.getD (k * 4 + 2) 0 - xs.getD (k * 4) 0)) -
      pPt (x * (xs.getD (k * 4 + 2) 0 - xs.getD (k * 4) 0)) (hS (xs.getD (k * 4) 0) (xs.getD (k * 4 + 1) 0) (xs.getD (k * 4 + 2) 0) (xs.getD (k * 4 + 3) 0) x u) (u * (xs.getD (k * 4 + 2) 0 - xs.getD (k * 4) 0)) (hS (xs.getD (k * 4) 0) (xs.getD (k * 4 + 1) 0) (xs.getD (k * 4 + 2) 0) (xs.getD (k * 4 + 3) 0) x u) *
        pPt (x * (xs.getD (i * 4 + 2) 0 - xs.getD (i * 4) 0)) (hS (xs.getD (i * 4) 0) (xs.getD (i * 4 + 1) 0) (xs.getD (i * 4 + 2) 0) (xs.getD (i * 4 + 3) 0) x u) (u * (xs.getD (i * 4 + 2) 0 - xs.getD (i * 4) 0)) (u * (xs.getD (i * 4 + 2) 0 - xs.getD (i * 4) 0))) = sgnI (cfA xs x u i k) := by
  unfold dX at hi hk
  rw [sgn_pt (Int.mul_pos hu hi) (Int.mul_pos hu hk), hS_eq, hS_eq]
  unfold cfA hX dX
  generalize hN (xs.getD (i * 4) 0) (xs.getD (i * 4 + 1) 0) (xs.getD (i * 4 + 2) 0) (xs.getD (i * 4 + 3) 0) x u = p
  generalize hN (xs.getD (k * 4) 0) (xs.getD (k * 4 + 1) 0) (xs.getD (k * 4 + 2) 0) (xs.getD (k * 4 + 3) 0) x u = q
  generalize xs.getD (i * 4 + 2) 0 - xs.getD (i * 4) 0 = d
  generalize xs.getD (k * 4 + 2) 0 - xs.getD (k * 4) 0 = e
  have : p * (u * e) - q * (u * d) = u * (p * e - q * d) := by grind
  rw [this, sgnI_pos_mul hu]
theorem below_1 {xs : List Int} {x u c : Int} {i k : Nat} (hc : c = sgnI (cfA xs x u i k)) (h : c ≠ 0) : (c < 0 ↔ cfN xs x u i k < 0) := by
  unfold cfN orV; rw [← hc, if_pos h]
theorem below_t {xs : List Int} {i k : Nat} : dX xs i * dY xs k - dY xs i * dX xs k = -cfB xs i k := by
  unfold cfB; rw [Int.mul_comm (dX xs i)]; omega
theorem below_2 {xs : List Int} {x u c t : Int} {i k : Nat} (hc : c = sgnI (cfA xs x u i k)) (h : ¬ c ≠ 0) (ht : t = -cfB xs i k) (h2 : t ≠ 0) : (0 < t ↔ cfN xs x u i k < 0) := by
  unfold cfN orV; rw [← hc, if_neg h, if_pos (by rw [Ne, sgn_eq]; omega), sgn_lt]; omega
theorem below_3 {xs : List Int} {x u c t : Int} {i k : Nat} (hc : c = sgnI (cfA xs x u i k)) (h : ¬ c ≠ 0) (ht : t = -cfB xs i k) (h2 : ¬ t ≠ 0) : ((i : Int) < (k : Int) ↔ cfN xs x u i k < 0) := by
  unfold cfN orV; rw [← hc, if_neg h, if_neg (by rw [Ne, sgn_eq]; omega)]; omega
theorem stS2_t {xs : List Int} {x u : Int} {i : Nat} (h1 : ¬ 0 < sgnI (xs.getD (i * 4) 0 * u - x * 1)) (h2 : ¬ 0 ≤ sgnI (x * 1 - xs.getD (i * 4 + 2) 0 * u)) : stS xs x u i := by
  rw [sgnI_gt] at h1
  have h3 : sgnI (x * 1 - xs.getD (i * 4 + 2) 0 * u) < 0 := by omega
  rw [sgnI_lt] at h3
  unfold stS; omega
theorem stS2_f1 {xs : List Int} {x u : Int} {i : Nat} (h1 : 0 < sgnI (xs.getD (i * 4) 0 * u - x * 1)) : ¬ stS xs x u i := fun h => by
  rw [sgnI_gt] at h1
  have := h.1; omega
theorem stS2_f2 {xs : List Int} {x u : Int} {i : Nat} (h1 : 0 ≤ sgnI (x * 1 - xs.getD (i * 4 + 2) 0 * u)) : ¬ stS xs x u i := fun h => by
  have h3 : ¬ sgnI (x * 1 - xs.getD (i * 4 + 2) 0 * u) < 0 := by omega
  rw [sgnI_lt] at h3
  have := h.2; omega
theorem stI_step {xs : List Int} {x u : Int} {i t : Nat} {L : List Int} (hL : L = stI xs x u i) (hS : stS xs x u i) (ht : t ≤ L.length) (h2 : ∀ q, q < t → cfV xs x u (L.getD q 0) (i : Int) < 0) (h3 : t = L.length ∨ ¬ cfV xs x u (L.getD t 0) (i : Int) < 0) : (([] : List Int) ++ L.take t ++ [(i : Int)]) ++ L.drop t = stI xs x u (i + 1) := by
  rw [← stI_t hS, ← hL, insL_at ht h2 h3, List.nil_append]
theorem stI_V {xs : List Int} {x u : Int} {i l : Nat} (hi : i ≤ l) {L : List Int} (hL : L = stI xs x u i) : ∀ k, k < L.length → stV l xs x u (L.getD k 0) := fun k hk => by
  rw [List.getD_eq_getElem?_getD, List.getElem?_eq_getElem hk, Option.getD_some]
  have h1 : L[k] ∈ stI xs x u i := hL ▸ List.getElem_mem _
  obtain ⟨q, h2, h3, h4⟩ := stL_mem.1 (stI_mem.1 h1)
  exact ⟨q, h2, by omega, h4⟩
theorem stV_rg {l : Nat} {xs : List Int} {x u z : Int} (h : stV l xs x u z) : 0 ≤ z ∧ z < (l : Int) := by obtain ⟨i, h1, h2, _⟩ := h; omega
def stR (l : Nat) (xs : List Int) (x y u : Int) : List Int := if (l ≤ 40 ∧ segsOk l xs) ∧ pOk x y u then stI xs x u l else []
theorem stR_t {l : Nat} {xs : List Int} {x y u : Int} (h : (l ≤ 40 ∧ segsOk l xs) ∧ pOk x y u) : stR l xs x y u = stI xs x u l := by
  unfold stR
  split
  · rfl
  · rename_i h2; exact absurd h h2
theorem stR_f {l : Nat} {xs : List Int} {x y u : Int} (h : ¬ ((l ≤ 40 ∧ segsOk l xs) ∧ pOk x y u)) : stR l xs x y u = [] := by
  unfold stR
  split
  · rename_i h2; exact absurd h2 h
  · rfl
theorem stR_len (l : Nat) (xs : List Int) (x y u : Int) : (stR l xs x y u).length ≤ 40 := by
  by_cases h : (l ≤ 40 ∧ segsOk l xs) ∧ pOk x y u
  · rw [stR_t h]; have := stI_len xs x u l; omega
  · rw [stR_f h]; simp
end Go.Proofs.Ytmbpomcbdopgnaa.Fw
namespace Go.Proofs.Ytmbpomcbdopgnaa.Fw
open Go Go.RowKit
abbrev qu (z : Int) : Value := .int .u64 z
abbrev qi (z : Int) : Value := .int .i64 z
abbrev qd (p : Prop) [Decidable p] : Value := .bool (decide p)
abbrev qA (x y u : Int) : Array Value := #[.int .u64 (wv3 x), .int .u64 (wv2 x), .int .u64 (wv1 x), .int .u64 (wv0 x), .int .u64 (wv3 y), .int .u64 (wv2 y), .int .u64 (wv1 y), .int .u64 (wv0 y), .int .u64 (wv3 u), .int .u64 (wv2 u), .int .u64 (wv1 u), .int .u64 (wv0 u)]
abbrev qL (x y u : Int) : List Value := [.int .u64 (wv3 x), .int .u64 (wv2 x), .int .u64 (wv1 x), .int .u64 (wv0 x), .int .u64 (wv3 y), .int .u64 (wv2 y), .int .u64 (wv1 y), .int .u64 (wv0 y), .int .u64 (wv3 u), .int .u64 (wv2 u), .int .u64 (wv1 u), .int .u64 (wv0 u)]
abbrev qB (x y u : Int) (v : Value) : Array Value := #[.int .u64 (wv3 x), .int .u64 (wv2 x), .int .u64 (wv1 x), .int .u64 (wv0 x), .int .u64 (wv3 y), .int .u64 (wv2 y), .int .u64 (wv1 y), .int .u64 (wv0 y), .int .u64 (wv3 u), .int .u64 (wv2 u), .int .u64 (wv1 u), .int .u64 (wv0 u), v]
abbrev qM (x y u : Int) (v : Value) : List Value := [.int .u64 (wv3 x), .int .u64 (wv2 x), .int .u64 (wv1 x), .int .u64 (wv0 x), .int .u64 (wv3 y), .int .u64 (wv2 y), .int .u64 (wv1 y), .int .u64 (wv0 y), .int .u64 (wv3 u), .int .u64 (wv2 u), .int .u64 (wv1 u), .int .u64 (wv0 u), v]
theorem qT {p : Prop} [Decidable p] (h : p) : Value.bool (decide p) = .bool true := congrArg Value.bool (decide_eq_true h)
theorem qF {p : Prop} [Decidable p] (h : ¬ p) : Value.bool (decide p) = .bool false := congrArg Value.bool (decide_eq_false h)
section
variable {P : Program} {f n : Nat} {R : Ending → World → Prop} {k : List Item} {fr : Fr} {w : World} {ops : Array Oper}
theorem Z {t : Nat} {v : Value} (h : (Nat.blt t n, fr t) = (true, v)) : EV n fr (.tmp t) v := T (congrArg Prod.fst h) (congrArg Prod.snd h)
theorem qm {rest : List Oper} {dst : Option Tmp} {ty : TypeId} {pos : String} {af : Array Edge} {t : Nat} (v : Value) (h1 : Nat.blt t n = true) (h2 : fr t = v) (h : LW P f n R k ops rest (putO fr dst v) w) : LW P f n R k ops (⟨dst, .move (.tmp t), ty, pos, af, none⟩ :: rest) fr w := lw_v v (dv_move (T h1 h2)) h
theorem qs {rest : List Oper} {dst : Option Tmp} {ty : TypeId} {pos : String} {af : Array Edge} {t : Nat} (v : Value) (h1 : Nat.blt t n = true) (h2 : fr t = v) (h : LW P f n R k ops rest (putO fr dst v) w) : LW P f n R k ops (⟨dst, .assign (.tmp t), ty, pos, af, none⟩ :: rest) fr w := lw_v v (dv_assign (T h1 h2)) h
theorem qe {w0 w w' : World} (h : Below w0.heap.size w0 w) (e : Ext w w') : Below w0.heap.size w0 w' := below_ext h h.size e
theorem qr {p q : Prop} (h : q) : (p ∨ True) ∧ q := ⟨.inr trivial, h⟩
theorem ql {m T s l c : Nat} {kk : IntKind} {neg : Bool} {A : Option Addr} {z : Int} (h : Num m T kk w neg A l c z s) (hm : 0 < m := by decide) : m * l < s + m ∨ l = 0 := Num.len hm h
theorem qN {c : Code} {id : Nat} {l : List Oper} (h : LW P f n R (.code c :: k) l.toArray l fr w) : LW P f n R (.code (.seq (.region id l.toArray false) c) :: k) ops [] fr w := lw_nil (rk_seq (rk_reg h))
end
end Go.Proofs.Ytmbpomcbdopgnaa.Fw
