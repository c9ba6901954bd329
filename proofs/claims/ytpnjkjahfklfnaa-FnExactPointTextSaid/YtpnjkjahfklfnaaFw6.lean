/- '==' of structs of whole numbers, one Bool. Generic over the program. -/
import Derived.Test.YtpnjkjahfklfnaaFw4
import Derived.Laws.StructEq
set_option linter.unusedVariables false
set_option linter.unusedSimpArgs false
namespace Go.Proofs.Ytpnjkjahfklfnaa.Fw
open Go Go.RowKit
section
variable {P : Program} {w : World}
theorem eqFields_flat {d : Nat} {k : IntKind} {xs ys : Array Value} {A B : Nat → Int} : ∀ fs : List Field,
    (∀ f ∈ fs, f.name ≠ "_" ∧ P.underlying f.type = some (.int k) ∧ xs[f.offset]? = some (.int k (A f.offset)) ∧ ys[f.offset]? = some (.int k (B f.offset))) →
    (Op.eqFields (d + 1) xs ys fs).run P w = .ok (fs.all fun f => A f.offset == B f.offset) w := by
  intro fs
  induction fs with
  | nil => intro _; simp [Op.eqFields]
  | cons f fs ih =>
    intro h
    obtain ⟨hn, hu, hx, hy⟩ := h f (by simp)
    have ih := ih fun g hg => h g (List.mem_cons_of_mem _ hg)
    have hag : (isAgg f.type).run P w = .ok false w := run_isAgg (by simp [aggB, hu])
    have px : (part f.type xs f.offset).run P w = .ok (.int k (A f.offset)) w := by simp [part, hag, hx]
    have py : (part f.type ys f.offset).run P w = .ok (.int k (B f.offset)) w := by simp [part, hag, hy]
    rw [Op.eqFields]
    simp only [if_pos hn, Sem.run_bind, px, py, run_equalIn_int w d f.type k k _ _ hu, Result.andThen_ok, List.all_cons]
    cases hb : (A f.offset == B f.offset)
    · simp
    · simpa using ih
/-- A struct of m whole numbers of one kind, one behind the other. -/
def flatB (P : Program) (t : Nat) (k : IntKind) (m : Nat) : Bool :=
  match P.underlying t with
  | some (.struct fs) => fs.toList.map (·.offset) == List.range m && fs.toList.all (fun f => f.name != "_" && (match P.underlying f.type with | some (.int k') => k' == k | _ => false)) && !P.stoodInHeld t
  | _ => false
theorem all_range (as bs : List Int) (m : Nat) (ha : as.length = m) (hb : bs.length = m) : ((List.range m).all fun o => as.getD o 0 == bs.getD o 0) = decide (as = bs) := by
  rw [Bool.eq_iff_iff]
  simp only [List.all_eq_true, List.mem_range, beq_iff_eq, decide_eq_true_eq]
  constructor
  · intro h
    apply List.ext_getElem (by omega)
    intro i h1 h2
    have := h i (by omega)
    simpa [List.getD_eq_getElem?_getD, h1, h2] using this
  · intro h; subst h; intro o ho; rfl
theorem equalIn_flat {d t : Nat} {k : IntKind} {m : Nat} {as bs : List Int} (hf : flatB P t k m = true) (ha : as.length = m) (hb : bs.length = m) :
    (Op.equalIn (d + 2) t (.agg (as.map (Value.int k)).toArray) (.agg (bs.map (Value.int k)).toArray)).run P w = .ok (decide (as = bs)) w := by
  unfold flatB at hf
  split at hf
  · rename_i fs hs
    simp only [Bool.and_eq_true, beq_iff_eq, List.all_eq_true, bne_iff_ne, Bool.not_eq_true'] at hf
    obtain ⟨⟨hoff, hall⟩, hst⟩ := hf
    have hfo : P.fieldsOf t = fs := by simp [Program.fieldsOf, hs]
    rw [run_equalIn_struct w (d + 1) t _ _ (by rw [hfo]; exact hs) hst, hfo]
    rw [eqFields_flat (d := d) (k := k) (A := fun o => as.getD o 0) (B := fun o => bs.getD o 0) fs.toList]
    · congr 1
      rw [← all_range as bs m ha hb, ← hoff]
      simp [List.all_map]
    · intro f hfm
      obtain ⟨hn, hk⟩ := hall f hfm
      have hlt : f.offset < m := by
        have : f.offset ∈ List.range m := by rw [← hoff]; exact List.mem_map_of_mem hfm
        simpa using this
      refine ⟨hn, ?_, ?_, ?_⟩
      · revert hk
        split
        · rename_i k' hk'
          intro hkk
          rw [hk']
          simp only [beq_iff_eq] at hkk
          rw [hkk]
        · intro h; cases h
      · simp [List.getD_eq_getElem?_getD, List.getElem?_eq_getElem (by omega : f.offset < as.length)]
      · simp [List.getD_eq_getElem?_getD, List.getElem?_eq_getElem (by omega : f.offset < bs.length)]
  · cases hf
/-- A struct of p structs of m whole numbers. -/
def nestB (P : Program) (t : Nat) (k : IntKind) (p m : Nat) : Bool :=
  match P.underlying t with
  | some (.struct fs) => fs.toList.map (·.offset) == (List.range p).map (· * m) && fs.toList.all (fun f => f.name != "_" && flatB P f.type k m && sizeB P f.type == some m && aggB P f.type == some true) && !P.stoodInHeld t
  | _ => false
theorem eqFields_nest {d : Nat} {k : IntKind} {m : Nat} {as bs : List Int} : ∀ fs : List Field,
    (∀ f ∈ fs, f.name ≠ "_" ∧ flatB P f.type k m = true ∧ sizeB P f.type = some m ∧ aggB P f.type = some true ∧ f.offset + m ≤ as.length ∧ f.offset + m ≤ bs.length) →
    (Op.eqFields (d + 2) (as.map (Value.int k)).toArray (bs.map (Value.int k)).toArray fs).run P w = .ok (fs.all fun f => decide ((as.drop f.offset).take m = (bs.drop f.offset).take m)) w := by
  intro fs
  induction fs with
  | nil => intro _; simp [Op.eqFields]
  | cons f fs ih =>
    intro h
    obtain ⟨hn, hu, hz, hg, hx, hy⟩ := h f (by simp)
    have ih := ih fun g hg => h g (List.mem_cons_of_mem _ hg)
    have pt : ∀ l : List Int, f.offset + m ≤ l.length → (part f.type (l.map (Value.int k)).toArray f.offset).run P w = .ok (.agg (((l.drop f.offset).take m).map (Value.int k)).toArray) w := by
      intro l hl
      simp [part, run_isAgg hg, run_sizeOf hz, List.extract_eq_take_drop, List.map_take, List.map_drop]
    rw [Op.eqFields]
    simp only [if_pos hn, Sem.run_bind, pt as hx, pt bs hy, Result.andThen_ok, List.all_cons]
    rw [equalIn_flat (d := d) (as := (as.drop f.offset).take m) (bs := (bs.drop f.offset).take m) hu (by simp; omega) (by simp; omega)]
    simp only [Result.andThen_ok]
    cases hb : decide ((as.drop f.offset).take m = (bs.drop f.offset).take m)
    · simp
    · simpa using ih
theorem chunks_eq (m : Nat) : ∀ (p : Nat) (as bs : List Int), as.length = p * m → bs.length = p * m →
    (((List.range p).map (· * m)).all fun o => decide ((as.drop o).take m = (bs.drop o).take m)) = decide (as = bs) := by
  intro p
  induction p with
  | zero => intro as bs ha hb; simp at ha hb; subst ha; subst hb; simp
  | succ p ih =>
    intro as bs ha hb
    have e1 : (p + 1) * m = m + p * m := by rw [Nat.add_mul]; omega
    have ih := ih (as.drop m) (bs.drop m) (by rw [List.length_drop]; omega) (by rw [List.length_drop]; omega)
    rw [Bool.eq_iff_iff] at ih ⊢
    simp only [List.all_eq_true, List.mem_map, List.mem_range, decide_eq_true_eq, forall_exists_index, and_imp, forall_apply_eq_imp_iff₂] at ih ⊢
    constructor
    · intro h
      have h0 : as.take m = bs.take m := by have := h 0 (by omega); simpa using this
      have h1 : as.drop m = bs.drop m := ih.1 fun i hi => by
        have := h (i + 1) (by omega)
        rw [List.drop_drop, List.drop_drop]
        have e : (i + 1) * m = m + i * m := by rw [Nat.add_mul]; omega
        rwa [e] at this
      rw [← List.take_append_drop m as, ← List.take_append_drop m bs, h0, h1]
    · intro h; subst h; intro i hi; rfl
theorem equalIn_nest {d t : Nat} {k : IntKind} {p m : Nat} {as bs : List Int} (hf : nestB P t k p m = true) (ha : as.length = p * m) (hb : bs.length = p * m) :
    (Op.equalIn (d + 3) t (.agg (as.map (Value.int k)).toArray) (.agg (bs.map (Value.int k)).toArray)).run P w = .ok (decide (as = bs)) w := by
  unfold nestB at hf
  split at hf
  · rename_i fs hs
    simp only [Bool.and_eq_true, beq_iff_eq, List.all_eq_true, bne_iff_ne, Bool.not_eq_true'] at hf
    obtain ⟨⟨hoff, hall⟩, hst⟩ := hf
    have hfo : P.fieldsOf t = fs := by simp [Program.fieldsOf, hs]
    rw [run_equalIn_struct w (d + 2) t _ _ (by rw [hfo]; exact hs) hst, hfo]
    rw [eqFields_nest (d := d) (k := k) (m := m) (as := as) (bs := bs) fs.toList]
    · congr 1
      rw [← chunks_eq m p as bs ha hb, ← hoff]
      simp [List.all_map]
    · intro f hfm
      obtain ⟨⟨⟨hn, hk⟩, hz⟩, hg⟩ := hall f hfm
      have hmem : f.offset ∈ (List.range p).map (· * m) := by rw [← hoff]; exact List.mem_map_of_mem hfm
      obtain ⟨i, hi, hio⟩ := List.mem_map.1 hmem
      have hle : f.offset + m ≤ p * m := by
        rw [← hio]
        have hip : i + 1 ≤ p := by
          have : i < p := by simpa using hi
          omega
        have h1 : (i + 1) * m ≤ p * m := Nat.mul_le_mul_right _ hip
        rw [Nat.add_mul] at h1
        omega
      exact ⟨hn, hk, hz, hg, by omega, by omega⟩
  · cases hf
section
variable {n : Nat} {fr : Fr} {ty : TypeId}
theorem guard_none {op : BinOp} {t : TypeId} {x y : Operand} {xs ys : Array Value} (hm : P.eqGuardType P.depth t = false) : (eqGuard op t x y (.agg xs) (.agg ys)).run P w = .ok () w := run_eqGuard_agg w op t x y xs ys hm
theorem dv_eqls {x y : Operand} {t t' : TypeId} {k : IntKind} {m : Nat} {la lb : List Int} (hf : flatB P t k m = true) (hm : P.eqGuardType P.depth t = false) (hx : EV n fr x (.agg (la.map (Value.int k)).toArray)) (hy : EV n fr y (.agg (lb.map (Value.int k)).toArray))
    (ha : la.length = m) (hb : lb.length = m) : DV P n (.binOp .eql t x y t') ty fr w (.bool (decide (la = lb))) := fun _ _ _ _ => by
  unfold EV at hx hy
  have h := equalIn_flat (P := P) (w := w) (d := 9998) (as := la) (bs := lb) hf ha hb
  simp only [execOp, hx, hy, Sem.run_bind, guard_none hm, Result.andThen_ok, run_eql_struct, h, Sem.run_pure]
theorem dv_neqs {x y : Operand} {t t' : TypeId} {k : IntKind} {m : Nat} {la lb : List Int} (hf : flatB P t k m = true) (hm : P.eqGuardType P.depth t = false) (hx : EV n fr x (.agg (la.map (Value.int k)).toArray)) (hy : EV n fr y (.agg (lb.map (Value.int k)).toArray))
    (ha : la.length = m) (hb : lb.length = m) : DV P n (.binOp .neq t x y t') ty fr w (.bool (decide (la ≠ lb))) := fun _ _ _ _ => by
  unfold EV at hx hy
  have h := equalIn_flat (P := P) (w := w) (d := 9998) (as := la) (bs := lb) hf ha hb
  simp only [execOp, hx, hy, Sem.run_bind, guard_none hm, Result.andThen_ok, run_neq_struct, h, Sem.run_pure]
  simp
theorem dv_eqln {x y : Operand} {t t' : TypeId} {k : IntKind} {p m : Nat} {la lb : List Int} (hf : nestB P t k p m = true) (hm : P.eqGuardType P.depth t = false) (hx : EV n fr x (.agg (la.map (Value.int k)).toArray)) (hy : EV n fr y (.agg (lb.map (Value.int k)).toArray))
    (ha : la.length = p * m) (hb : lb.length = p * m) : DV P n (.binOp .eql t x y t') ty fr w (.bool (decide (la = lb))) := fun _ _ _ _ => by
  unfold EV at hx hy
  have h := equalIn_nest (P := P) (w := w) (d := 9997) (as := la) (bs := lb) hf ha hb
  simp only [execOp, hx, hy, Sem.run_bind, guard_none hm, Result.andThen_ok, run_eql_struct, h, Sem.run_pure]
theorem dv_neqn {x y : Operand} {t t' : TypeId} {k : IntKind} {p m : Nat} {la lb : List Int} (hf : nestB P t k p m = true) (hm : P.eqGuardType P.depth t = false) (hx : EV n fr x (.agg (la.map (Value.int k)).toArray)) (hy : EV n fr y (.agg (lb.map (Value.int k)).toArray))
    (ha : la.length = p * m) (hb : lb.length = p * m) : DV P n (.binOp .neq t x y t') ty fr w (.bool (decide (la ≠ lb))) := fun _ _ _ _ => by
  unfold EV at hx hy
  have h := equalIn_nest (P := P) (w := w) (d := 9997) (as := la) (bs := lb) hf ha hb
  simp only [execOp, hx, hy, Sem.run_bind, guard_none hm, Result.andThen_ok, run_neq_struct, h, Sem.run_pure]
  simp
end
end
end Go.Proofs.Ytpnjkjahfklfnaa.Fw
