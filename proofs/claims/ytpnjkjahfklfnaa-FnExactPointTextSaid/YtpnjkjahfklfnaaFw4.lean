/- Aggregates, new slices, words in memory, numbers of any size. Generic over the program. -/
import Derived.Test.YtpnjkjahfklfnaaFw3
set_option linter.unusedVariables false
set_option linter.unusedSimpArgs false
namespace Go.Proofs.Ytpnjkjahfklfnaa.Fw
open Go Go.RowKit

section
variable {P : Program} {n : Nat} {fr : Fr} {w : World} {ty : TypeId}

/-! ### Aggregates -/
/-- Each field's place and size. -/
def placesB (P : Program) (t : Nat) : Option (List (Nat × Nat)) :=
  match P.underlying t with
  | some (.struct fs) => fs.toList.mapM fun f => (sizeB P f.type).map fun m => (f.offset, m)
  | _ => none
def fillL (place : Nat → Option (Nat × Nat)) (cs : List Value) : List (Nat × Value) → Option (List Value)
  | [] => some cs
  | (i, v) :: rest => match place i with
    | none => none
    | some (off, size) => bif v.cells.size == size && Nat.ble (off + size) cs.length then match stC cs off v.cells.toList with
        | some cs' => fillL place cs' rest
        | none => none
      else none
theorem fold_stC : ∀ (vs : List Value) (cs l : List Value) (off j : Nat), stC cs (off + j) vs = some l →
    (vs.zipIdx j).foldl (fun (a : Array Value) (x : Value × Nat) => a.setIfInBounds (off + x.2) x.1) cs.toArray = l.toArray ∧ off + j + vs.length ≤ max cs.length (off + j) := by
  intro vs
  induction vs with
  | nil => intro cs l off j h; rw [stC_nil] at h; simp at h; subst h; simp; omega
  | cons v vs ih =>
    intro cs l off j h
    obtain ⟨h1, h2⟩ := stC_step cs (off + j) v vs l h
    obtain ⟨h3, h4⟩ := ih (cs.set (off + j) v) l off (j + 1) h2
    simp only [List.zipIdx_cons, List.foldl_cons]
    refine ⟨?_, ?_⟩
    · rw [← h3]; simp
    · simp at h4 ⊢; omega
theorem fill_of : ∀ (parts : List (Nat × Value)) (place : Nat → Option (Nat × Nat)) (cs l : List Value), fillL place cs parts = some l → Instr.fill place cs.toArray parts = some l.toArray := by
  intro parts
  induction parts with
  | nil => intro place cs l h; simp [fillL] at h; subst h; simp [Instr.fill]
  | cons p rest ih =>
    intro place cs l h
    obtain ⟨i, v⟩ := p
    simp only [fillL] at h
    split at h
    · cases h
    · rename_i off size hp
      cases hc : (v.cells.size == size && Nat.ble (off + size) cs.length) with
      | false => rw [hc] at h; cases h
      | true =>
        rw [hc] at h
        simp only [cond_true] at h
        simp only [Bool.and_eq_true, beq_iff_eq, Nat.ble_eq] at hc
        obtain ⟨hsz, hle⟩ := hc
        split at h
        · rename_i cs' hst
          have hf := fold_stC v.cells.toList cs cs' off 0 (by simpa using hst)
          simp only [Instr.fill, hp]
          have hcond : ¬ ((decide (v.cells.size ≠ size) || decide (off + v.cells.size > cs.toArray.size)) = true) := by
            simp [hsz, hle]
          rw [if_neg hcond]
          have e1 : (v.cells.zipIdx.foldl (fun (a : Array Value) (x : Value × Nat) => a.setIfInBounds (off + x.2) x.1) cs.toArray) = cs'.toArray := by
            have h3 := hf.1
            rw [← h3, ← Array.foldl_toList]
            simp
          have h5 := ih place cs' l h
          rw [← e1] at h5
          exact h5
        · cases h
def zcB (P : Program) (t : Nat) : Option (List Value) := (zeroB P t).map (·.toList)
theorem places_spec {t : Nat} {pl : List (Nat × Nat)} (h : placesB P t = some pl) :
    ∃ fs, P.underlying t = some (.struct fs) ∧ ∀ w : World, ((fs.mapM fun f => do pure (f.offset, ← sizeOf f.type)) : Sem (Array (Nat × Nat))).run P w = .ok pl.toArray w := by
  unfold placesB at h
  split at h
  · rename_i fs hs
    refine ⟨fs, hs, fun w => ?_⟩
    have gen : ∀ (l : List Field) (pl : List (Nat × Nat)), (l.mapM fun f => (sizeB P f.type).map fun m => (f.offset, m)) = some pl →
        ((l.mapM fun f => do pure (f.offset, ← sizeOf f.type)) : Sem (List (Nat × Nat))).run P w = .ok pl w := by
      intro l
      induction l with
      | nil => intro pl h; simp at h; subst h; simp
      | cons f l ih =>
        intro pl h
        simp only [List.mapM_cons, Option.bind_eq_bind, Option.bind_eq_some_iff, Option.map_eq_some_iff, Option.pure_def, Option.some.injEq] at h
        obtain ⟨x, ⟨m, hm, rfl⟩, xs, hxs, rfl⟩ := h
        have hi := ih xs hxs
        simp only [bind_pure_comp] at hi
        simp [List.mapM_cons, run_sizeOf hm, hi]
    have h1 := gen fs.toList pl h
    rw [Array.mapM_eq_mapM_toList]
    simp only [Sem.run_map, h1]
    rfl
  · cases h
theorem run_zero {t : Nat} {zc : List Value} (h : zcB P t = some zc) (w : World) : ∃ z, (zeroValue t).run P w = .ok z w ∧ z.cells = zc.toArray := by
  unfold zcB zeroB at h
  cases hi : P.info? t with
  | none => simp [hi] at h
  | some inf =>
    cases hz : inf.zero with
    | none => simp [hi, hz] at h
    | some z =>
      refine ⟨z, by simp [zeroValue, typeInfo, hi, hz], ?_⟩
      simp only [hi, hz, Option.bind_some, Option.map_some, Option.some.injEq] at h
      rw [← h]
/-- The parts' values. -/
def EVs (n : Nat) (fr : Fr) : List (Nat × Operand) → List (Nat × Value) → Prop
  | [], [] => True
  | (i, x) :: r, (j, v) :: s => i = j ∧ EV n fr x v ∧ EVs n fr r s
  | _, _ => False
theorem EVs.map : ∀ {ps : List (Nat × Operand)} {pv : List (Nat × Value)}, EVs n fr ps pv → ps.map (fun (i, x) => (i, (actOf n fr).eval x)) = pv
  | [], [], _ => rfl
  | (i, x) :: r, (j, v) :: s, h => by
    obtain ⟨rfl, h1, h2⟩ := h
    unfold EV at h1
    simp [h1, EVs.map h2]
  | [], _ :: _, h => h.elim
  | _ :: _, [], h => h.elim
theorem dv_build {t : TypeId} {ps : List (Nat × Operand)} {pv : List (Nat × Value)} {zc l : List Value} {pl : List (Nat × Nat)} (hz : zcB P t = some zc) (hp : placesB P t = some pl) (hx : EVs n fr ps pv)
    (hl : fillL (fun i => pl[i]?) zc pv = some l) : DV P n (.build t ps.toArray) ty fr w (.agg l.toArray) := fun _ _ _ _ => by
  obtain ⟨fs, hs, hpl⟩ := places_spec hp
  obtain ⟨z, hzr, hzc⟩ := run_zero hz w
  have hf := fill_of pv (fun i => pl.toArray[i]?) zc l (by simpa using hl)
  have hm := hx.map
  have hm2 : (ps.toArray.map fun (i, x) => (i, (actOf n fr).eval x)).toList = pv := by simpa using hm
  simp only [execOp, Instr.build, Sem.run_bind, hzr, Result.andThen_ok, underlying, Sem.run_pure, run_program, hs, hpl, hzc]
  rw [hm2, hf]
  rfl

/-! ### New slices -/
theorem oe_makeSlice {t e : TypeId} {x y : Operand} {kl kc : IntKind} {l : Nat} {z : Value} {bytes : Nat} {K : Value → World → Prop} (ht : P.underlying t = some (.slice e))
    (hi : (P.info? e).map (fun i => (i.zero, i.size, i.bytes)) = some (some z, 1, bytes)) (hz : z.cells = #[z]) (hx : EV n fr x (.int kl l)) (hy : EV n fr y (.int kc l)) (hb : bytes * l ≤ 281474976710656) (hl : l ≤ 281474976710656)
    (h : ∀ b w', New w b (.cells (List.replicate l z).toArray e) w' → K (.slice (some ⟨b, 0, none⟩) l l) w') : OE P n (.makeSlice t x y) ty fr w K := by
  cases hin : P.info? e with
  | none => simp [hin] at hi
  | some inf =>
    simp only [hin, Option.map_some, Option.some.injEq, Prod.mk.injEq] at hi
    obtain ⟨h1, h2, h3⟩ := hi
    subst h3
    have hb' : (inf.bytes : Int) * (l : Int) ≤ 281474976710656 := by
      have h : ((inf.bytes * l : Nat) : Int) ≤ 281474976710656 := by omega
      rwa [Int.natCast_mul] at h
    have hr := run_make (P := P) w t e inf z ht hin h1 kl kc l l (by omega) (Int.le_refl _) hb' (by omega)
    simp only [Int.toNat_natCast, h2, Nat.mul_one, hz] at hr
    have hm : madeCells #[z] l = (List.replicate l z).toArray := by rw [← toList_madeCells_one]
    rw [hm] at hr
    refine OE.of_run (fun _ _ _ _ => ?_) (h _ _ (new_alloc w _))
    unfold EV at hx hy
    simp [execOp, hx, hy, hr]
theorem oe_makeSlice_cap {t e : TypeId} {x y : Operand} {kl kc : IntKind} {c : Nat} {z : Value} {bytes : Nat} {K : Value → World → Prop} (ht : P.underlying t = some (.slice e))
    (hi : (P.info? e).map (fun i => (i.zero, i.size, i.bytes)) = some (some z, 1, bytes)) (hz : z.cells = #[z]) (hx : EV n fr x (.int kl 0)) (hy : EV n fr y (.int kc c)) (hb : bytes * c ≤ 281474976710656) (hl : c ≤ 281474976710656)
    (h : ∀ b w', New w b (.cells (List.replicate c z).toArray e) w' → K (.slice (some ⟨b, 0, none⟩) 0 c) w') : OE P n (.makeSlice t x y) ty fr w K := by
  cases hin : P.info? e with
  | none => simp [hin] at hi
  | some inf =>
    simp only [hin, Option.map_some, Option.some.injEq, Prod.mk.injEq] at hi
    obtain ⟨h1, h2, h3⟩ := hi
    subst h3
    have hb' : (inf.bytes : Int) * (c : Int) ≤ 281474976710656 := by
      have h : ((inf.bytes * c : Nat) : Int) ≤ 281474976710656 := by omega
      rwa [Int.natCast_mul] at h
    have hr := run_make (P := P) w t e inf z ht hin h1 kl kc 0 c (by omega) (by omega) hb' (by omega)
    simp only [Int.toNat_natCast, Int.toNat_zero, h2, Nat.mul_one, hz] at hr
    have hm : madeCells #[z] c = (List.replicate c z).toArray := by rw [← toList_madeCells_one]
    rw [hm] at hr
    refine OE.of_run (fun _ _ _ _ => ?_) (h _ _ (new_alloc w _))
    unfold EV at hx hy
    simp [execOp, hx, hy, hr]
theorem oe_buildSlice {t e : TypeId} {len sz : Nat} {ps : List (Nat × Operand)} {pv : List (Nat × Value)} {zc init l : List Value} {K : Value → World → Prop} (ht : P.underlying t = some (.slice e)) (hs : sizeB P e = some sz)
    (hlen : Nat.ble (len * sz) 16777216 = true) (hpos : Nat.beq (len * sz) 0 = false) (hz : zcB P e = some zc) (hin : ((Array.range (len * sz)).map (zc.toArray[· % zc.toArray.size]!)).toList = init) (hx : EVs n fr ps pv)
    (hl : fillL (fun i => some (i * sz, sz)) init pv = some l)
    (h : ∀ b w', New w b (.cells l.toArray e) w' → K (.slice (some ⟨b, 0, none⟩) len len) w') : OE P n (.buildSlice t len ps.toArray) ty fr w K :=
  OE.of_run (v := .slice (some ⟨w.heap.size, 0, none⟩) len len) (w' := w.alloc (.cells l.toArray e)) (fun _ _ _ _ => by
    obtain ⟨z, hzr, hzc⟩ := run_zero hz w
    have hf := fill_of pv (fun i => some (i * sz, sz)) init l hl
    have hm := hx.map
    have hm2 : (ps.toArray.map fun (i, x) => (i, (actOf n fr).eval x)).toList = pv := by simpa using hm
    have h1 : ¬ (len * sz > 2 ^ 24) := by simp at hlen; simp; omega
    have h2 : ¬ (len * sz = 0) := by intro h0; rw [h0] at hpos; cases hpos
    have hin' : ((Array.range (len * sz)).map (zc.toArray[· % zc.toArray.size]!)) = init.toArray := by rw [← hin]
    simp only [execOp, Instr.buildSlice, Sem.run_bind, underlying, Sem.run_pure, run_program, ht, Result.andThen_ok, run_sizeOf hs, if_neg h1, if_neg h2, hzr, hzc, hin', hm2, hf, newRow, run_newObj]
    rfl) (h _ _ (new_alloc w _))
end

/-! ### Words in memory -/
/-- The slice at A reads as xs. -/
def Wd (w : World) (T : Nat) (k : IntKind) (A : Option Addr) (xs : List Int) : Prop :=
  (xs = [] ∧ A = none) ∨ ∃ (g off : Nat) (cs : Array Value) (fz : Nat × Nat), A = some ⟨g, off, none⟩ ∧ w.heap[g]? = some (.cells cs T fz) ∧ ∀ i x, xs[i]? = some x → cs[off + i]? = some (.int k x)
theorem Wd.nil {w : World} {T : Nat} {k : IntKind} : Wd w T k none [] := .inl ⟨rfl, rfl⟩
theorem Wd.ext {w w' : World} {T : Nat} {k : IntKind} {A : Option Addr} {xs : List Int} (h : Wd w T k A xs) (e : Ext w w') : Wd w' T k A xs := by
  rcases h with h | ⟨g, off, cs, fz, hA, hg, hc⟩
  · exact .inl h
  · exact .inr ⟨g, off, cs, fz, hA, e.blk hg, hc⟩
theorem Wd.st {w w' : World} {T T' b : Nat} {k : IntKind} {A : Option Addr} {xs : List Int} {cs' : Array Value} {fz' : Nat × Nat} (h : Wd w T k A xs) (e : St b w w') (hb : w.heap[b]? = some (.cells cs' T' fz')) (hT : T' ≠ T) : Wd w' T k A xs := by
  rcases h with h | ⟨g, off, cs, fz, hA, hg, hc⟩
  · exact .inl h
  · refine .inr ⟨g, off, cs, fz, hA, e.blk hg ?_, hc⟩
    intro he
    subst he
    rw [hg] at hb
    injection hb with hb
    injection hb with _ hb _
    exact hT hb.symm
theorem Wd.at {w : World} {T : Nat} {k : IntKind} {A : Option Addr} {xs : List Int} (h : Wd w T k A xs) (hp : 0 < xs.length) : ∃ g off, A = some ⟨g, off, none⟩ := by
  rcases h with h | ⟨g, off, cs, fz, hA, hg, hc⟩
  · rw [h.1] at hp; simp at hp
  · exact ⟨g, off, hA⟩
theorem Wd.cell {w : World} {T : Nat} {k : IntKind} {g off : Nat} {xs : List Int} (h : Wd w T k (some ⟨g, off, none⟩) xs) {i : Nat} (hi : i < xs.length) : w.cell? ⟨g, off + i, none⟩ = some (.int k (xs.getD i 0)) := by
  rcases h with h | ⟨g', off', cs, fz, hA, hg, hc⟩
  · cases h.2
  · obtain ⟨rfl, rfl⟩ : g = g' ∧ off = off' := by simpa using hA
    rw [cell_of_row w g (off + i) cs T fz hg]
    have := hc i _ (List.getElem?_eq_getElem hi)
    simpa [List.getD_eq_getElem?_getD, List.getElem?_eq_getElem hi] using this
theorem Wd.take {w : World} {T : Nat} {k : IntKind} {A : Option Addr} {xs : List Int} (h : Wd w T k A xs) (m : Nat) : Wd w T k A (xs.take m) := by
  rcases h with h | ⟨g, off, cs, fz, hA, hg, hc⟩
  · exact .inl ⟨by rw [h.1]; simp, h.2⟩
  · refine .inr ⟨g, off, cs, fz, hA, hg, fun i x hi => hc i x ?_⟩
    rw [List.getElem?_take] at hi
    split at hi
    · exact hi
    · cases hi
/-- What lies in a block of one's own. -/
theorem Wd.own {w : World} {T : Nat} {k : IntKind} {b : Nat} {xs : List Int} {r : List Value} {fz : Nat × Nat} (hb : w.heap[b]? = some (.cells (xs.map (Value.int k) ++ r).toArray T fz)) : Wd w T k (some ⟨b, 0, none⟩) xs := by
  refine .inr ⟨b, 0, _, fz, rfl, hb, fun i x hi => ?_⟩
  obtain ⟨hl, hv⟩ := List.getElem?_eq_some_iff.1 hi
  simp [List.getElem?_append_left, hl, hv]
theorem addr_add {g off i : Nat} : (⟨g, off, none⟩ : Addr).add (i * 1) = ⟨g, off + i, none⟩ := by unfold Addr.add; split <;> simp_all

/-! ### A row of words of one's own -/
section
variable {P : Program} {n : Nat} {fr : Fr} {w : World} {ty : TypeId}
theorem dv_loadW {t : TypeId} {x : Operand} {b T i : Nat} {k : IntKind} {L : List Int} {fz : Nat × Nat} {v : Int} (ht : aggB P t = some false) (hx : EV n fr x (.pointer (some ⟨b, i, none⟩))) (hb : w.heap[b]? = some (.cells (L.map (Value.int k)).toArray T fz))
    (hi : i < L.length) (hv : L.getD i 0 = v) : DV P n (.load t x) ty fr w (.int k v) :=
  dv_load1 ht hx hb (by simp [hi, ← hv, List.getD_eq_getElem?_getD])
theorem oe_storeW {t : TypeId} {x y : Operand} {b T i : Nat} {k : IntKind} {L : List Int} {z : Int} {K : Value → World → Prop} (hs : sizeB P t = some 1) (hx : EV n fr x (.pointer (some ⟨b, i, none⟩))) (hy : EV n fr y (.int k z))
    (hb : w.heap[b]? = some (.cells (L.map (Value.int k)).toArray T)) (hi : i < L.length)
    (h : ∀ w', St b w w' → w'.heap[b]? = some (.cells ((L.set i z).map (Value.int k)).toArray T) → K undef w') : OE P n (.store t x y) ty fr w K := by
  have hl : stC (L.map (Value.int k)) i [.int k z] = some ((L.set i z).map (Value.int k)) := by
    clear h hb hy hx
    induction L generalizing i with
    | nil => simp at hi
    | cons c L ih =>
      cases i with
      | zero => simp [stC]
      | succ i => simp [stC, ih (by simpa using hi)]
  exact oe_store hx hy hs rfl rfl rfl hb hl h
theorem cell_at {w : World} {A : Option Addr} {T : Nat} {k : IntKind} {xs : List Int} {g off i : Nat} (h : Wd w T k (some ⟨g, off, none⟩) xs) (hi : i < xs.length) : w.cell? ⟨g, off + i, none⟩ = some (.int k (xs.getD i 0)) := h.cell hi
end
/-! ### Numbers -/
def valB (B : Int) : List Int → Int
  | [] => 0
  | x :: xs => x + B * valB B xs
def okW (B : Int) (xs : List Int) : Prop := ∀ x ∈ xs, 0 ≤ x ∧ x < B
def canon (xs : List Int) : Prop := xs.getLast? ≠ some 0
def sg (neg : Bool) (v : Int) : Int := if neg then -v else v
/-- The number z, of fewer than s bits, lies at (neg, A, l, c). -/
def Num (m T : Nat) (k : IntKind) (w : World) (neg : Bool) (A : Option Addr) (l c : Nat) (z : Int) (s : Nat) : Prop :=
  ∃ xs : List Int, xs.length = l ∧ l ≤ c ∧ Wd w T k A xs ∧ okW (2 ^ m) xs ∧ canon xs ∧ (neg = true → l ≠ 0) ∧ z = sg neg (valB (2 ^ m) xs) ∧ z.natAbs < 2 ^ s
section
variable {m T : Nat} {k : IntKind} {w w' : World} {neg : Bool} {A : Option Addr} {l c : Nat} {z : Int} {s : Nat}
theorem Num.ext (h : Num m T k w neg A l c z s) (e : Ext w w') : Num m T k w' neg A l c z s := by
  obtain ⟨xs, h1, h2, h3, h4⟩ := h
  exact ⟨xs, h1, h2, h3.ext e, h4⟩
theorem Num.st {b T' : Nat} {cs' : Array Value} {fz' : Nat × Nat} (h : Num m T k w neg A l c z s) (e : St b w w') (hb : w.heap[b]? = some (.cells cs' T' fz')) (hT : T' ≠ T) : Num m T k w' neg A l c z s := by
  obtain ⟨xs, h1, h2, h3, h4⟩ := h
  exact ⟨xs, h1, h2, h3.st e hb hT, h4⟩
theorem Num.to {z' : Int} {s' : Nat} (h : Num m T k w neg A l c z s) (hz : z = z') (hs : s ≤ s') : Num m T k w neg A l c z' s' := by
  subst hz
  obtain ⟨xs, h1, h2, h3, h4, h5, h6, h7, h8⟩ := h
  exact ⟨xs, h1, h2, h3, h4, h5, h6, h7, Nat.lt_of_lt_of_le h8 (Nat.pow_le_pow_right (by decide) hs)⟩
theorem Num.zero {c : Nat} : Num m T k w false none 0 c 0 s :=
  ⟨[], rfl, Nat.zero_le _, .nil, fun x hx => (by cases hx), by simp [canon], by simp, by simp [sg, valB], by simp; exact Nat.pos_of_ne_zero (by simp)⟩
theorem Num.lt (h : Num m T k w neg A l c z s) : z.natAbs < 2 ^ s := by obtain ⟨xs, h1, h2, h3, h4, h5, h6, h7, h8⟩ := h; exact h8
theorem Num.cap (h : Num m T k w neg A l c z s) : l ≤ c := by obtain ⟨xs, h1, h2, _⟩ := h; exact h2
end
end Go.Proofs.Ytpnjkjahfklfnaa.Fw
