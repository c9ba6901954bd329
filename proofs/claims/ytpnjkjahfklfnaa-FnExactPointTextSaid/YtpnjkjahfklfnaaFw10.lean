/- Rows of words that grow by append. -/
import Derived.Test.YtpnjkjahfklfnaaFw9
set_option linter.unusedVariables false
set_option linter.unusedSimpArgs false
namespace Go.Proofs.Ytpnjkjahfklfnaa.Fw
open Go Go.RowKit
/-- The slice at A, of capacity c, is the call's own (its block is base or above), and reads as L. -/
def Ow (w : World) (base T : Nat) (k : IntKind) (A : Option Addr) (c : Nat) (L : List Int) : Prop := w.ownsRow base T 1 (.slice A L.length c) L.length (L.map (Value.int k)) ∧ base ≤ w.heap.size
theorem own_keep {w w' : World} {base T n : Nat} {v : Value} {xs : List Value} (h : w.ownsRow base T 1 v n xs) (hk : ∀ g o, w.heap[g]? = some o → base ≤ g → (∃ cs fz, o = .cells cs T fz) → w'.heap[g]? = some o) : w'.ownsRow base T 1 v n xs := by
  refine ⟨h.1, ?_⟩
  rcases h.2 with h | ⟨g, cap, cur, hv, hb, hg, r⟩
  · exact .inl h
  · exact .inr ⟨g, cap, cur, hv, hb, hk g _ hg hb ⟨_, _, rfl⟩, r⟩
theorem Ow.ext {w w' : World} {base T c : Nat} {k : IntKind} {A : Option Addr} {L : List Int} (h : Ow w base T k A c L) (e : Ext w w') : Ow w' base T k A c L := ⟨own_keep h.1 fun g o hg _ _ => e.blk hg, Nat.le_trans h.2 e.size⟩
theorem Ow.st {w w' : World} {base T T' b c : Nat} {k : IntKind} {A : Option Addr} {L : List Int} {cs' : Array Value} {fz' : Nat × Nat} (h : Ow w base T k A c L) (e : St b w w') (hb : w.heap[b]? = some (.cells cs' T' fz')) (hT : T' ≠ T) : Ow w' base T k A c L :=
  ⟨own_keep h.1 fun g o hg _ ⟨cs, fz, ho⟩ => e.blk hg (fun he => by
    subst he; subst ho
    rw [hg] at hb
    injection hb with hb
    injection hb with _ hb _
    exact hT hb.symm), by rw [e.size]; exact h.2⟩
theorem Ow.wd {w : World} {base T c : Nat} {k : IntKind} {A : Option Addr} {L : List Int} (h : Ow w base T k A c L) : Wd w T k A L := by
  rcases h.1.2 with ⟨hv, hn⟩ | ⟨g, cap, cur, hv, hb, hg, h1, h2, h3, h4⟩
  · injection hv with hA _ _
    exact .inl ⟨List.eq_nil_of_length_eq_zero hn, hA⟩
  · injection hv with hA _ hc
    refine .inr ⟨g, 0, cur, _, hA, hg, fun i x hi => ?_⟩
    have hl := (List.getElem?_eq_some_iff.1 hi).1
    have h5 : (cur.toList.take (L.length * 1))[i]? = (L.map (Value.int k))[i]? := by rw [h4]
    rw [List.getElem?_take_of_lt (by omega), List.getElem?_map, hi] at h5
    simpa using h5
theorem Ow.cap {w : World} {base T c : Nat} {k : IntKind} {A : Option Addr} {L : List Int} (h : Ow w base T k A c L) : L.length ≤ c := by
  rcases h.1.2 with ⟨hv, hn⟩ | ⟨g, cap, cur, hv, hb, hg, h1, h2, h3, h4⟩
  · omega
  · injection hv with _ _ hc
    omega
theorem Ow.ge {w : World} {base T c : Nat} {k : IntKind} {A : Option Addr} {L : List Int} (h : Ow w base T k A c L) {g o : Nat} (hA : A = some ⟨g, o, none⟩) : base ≤ g := by
  subst hA
  rcases h.1.2 with ⟨hv, hn⟩ | ⟨g', cap, cur, hv, hb, hg, h1, h2, h3, h4⟩
  · injection hv with hA _ _
    cases hA
  · injection hv with hA _ hc
    injection hA with hA
    injection hA with h5 h6 h7
    subst h5
    exact hb
/-- A store into another block. -/
theorem Wd.stO {w w' : World} {T b : Nat} {k : IntKind} {A : Option Addr} {xs : List Int} (h : Wd w T k A xs) (e : St b w w') (ho : ∀ g o, A = some ⟨g, o, none⟩ → b < g) : Wd w' T k A xs := by
  rcases h with h | ⟨g, off, cs, fz, hA, hg, hc⟩
  · exact .inl h
  · exact .inr ⟨g, off, cs, fz, hA, e.blk hg (by have := ho g off hA; omega), hc⟩
theorem Num.stO {m T b : Nat} {k : IntKind} {w w' : World} {neg : Bool} {A : Option Addr} {l c : Nat} {z : Int} {s : Nat} (h : Num m T k w neg A l c z s) (e : St b w w') (ho : ∀ g o, A = some ⟨g, o, none⟩ → b < g) : Num m T k w' neg A l c z s := by
  obtain ⟨xs, h1, h2, h3, h4⟩ := h
  exact ⟨xs, h1, h2, h3.stO e ho, h4⟩
/-- A new row of capacity c, nothing in it. -/
theorem Ow.made {w w' : World} {b T c : Nat} {k : IntKind} {z : Value} (h : New w b (.cells (List.replicate c z).toArray T) w') (hc : c ≤ 281474976710656) : Ow w' b T k (some ⟨b, 0, none⟩) c [] :=
  ⟨⟨by simp, .inr ⟨b, c, _, rfl, Nat.le_refl _, h.blk, Nat.zero_le _, by simp only [maxLen]; omega, by simp, by simp⟩⟩, Nat.le_of_lt (lt_of_blk h.blk)⟩
/-- A new row, all of it told. -/
theorem Ow.full {w w' : World} {b T : Nat} {k : IntKind} {L : List Int} (h : w'.heap[b]? = some (.cells (L.map (Value.int k)).toArray T)) (hc : L.length ≤ 281474976710656) : Ow w' b T k (some ⟨b, 0, none⟩) L.length L :=
  ⟨⟨by simp, .inr ⟨b, L.length, _, rfl, Nat.le_refl _, h, Nat.le_refl _, by simp only [maxLen]; omega, by simp, by simp [List.take_of_length_le]⟩⟩, Nat.le_of_lt (lt_of_blk h)⟩
theorem below_of_grown {w w' : World} {base : Nat} {row : Option Nat} (h : w.grownBy w' row) (hb : base ≤ w.heap.size) (hr : ∀ g, row = some g → base ≤ g) : Below base w w' :=
  ⟨h.os, h.tape, h.output, h.size, fun k hk => h.block k (by omega) (fun he => by have := hr k he.symm; omega)⟩
theorem own_row_ge {w : World} {base T n : Nat} {v : Value} {xs : List Value} (h : w.ownsRow base T 1 v n xs) : ∀ g, v.ownBlock = some g → base ≤ g := fun g hg => (h.lt g hg).1
theorem own_slice {w : World} {base T n : Nat} {v : Value} {xs : List Value} (h : w.ownsRow base T 1 v n xs) : ∃ A c, v = .slice A n c := by
  rcases h.2 with ⟨rfl, rfl⟩ | ⟨g, cap, cur, rfl, _⟩
  · exact ⟨_, _, rfl⟩
  · exact ⟨_, _, rfl⟩
theorem below_bl {N base : Nat} {w0 w w' : World} (h : Below N w0 w) (hN : N ≤ base) (e : Below base w w') : Below N w0 w' := h.trans (e.mono hN)
theorem bl_blk {base : Nat} {w w' : World} (e : Below base w w') {b : Nat} {o : Obj} (h : w.heap[b]? = some o) (hb : b < base) : w'.heap[b]? = some o := (e.block b hb).trans h
section
variable {P : Program} {n : Nat} {fr : Fr} {w : World} {ty : TypeId}
theorem oe_appendW {t e : TypeId} {x y : Operand} {k : IntKind} {A : Option Addr} {c base bytes g o c2 m : Nat} {L M : List Int} {K : Value → World → Prop} (ht : P.underlying t = some (.slice e))
    (hi : (P.info? e).map (fun i => (i.zero, i.size, i.bytes)) = some (some (.int k 0), 1, bytes)) (hx : EV n fr x (.slice A L.length c)) (hy : EV n fr y (.slice (some ⟨g, o, none⟩) m c2))
    (hO : Ow w base e k A c L) (hW : Wd w e k (some ⟨g, o, none⟩) M) (hm : M.length = m) (hb : (L.length + m) * bytes ≤ 140737488355328) (hl : L.length + m ≤ 140737488355328)
    (h : ∀ A' c' w', Ow w' base e k A' c' (L ++ M) → Below base w w' → K (.slice A' (L ++ M).length c') w') : OE P n (.call { callee := .builtin .append, args := #[x, y], argTypes := #[t, t] }) ty fr w K := by
  cases hin : P.info? e with
  | none => simp [hin] at hi
  | some inf =>
    simp only [hin, Option.map_some, Option.some.injEq, Prod.mk.injEq] at hi
    obtain ⟨h1, h2, h3⟩ := hi
    subst hm
    obtain ⟨v', w', hr, hown, hgr, _⟩ := run_append_own (P := P) w base t ty e inf (.int k 0) 1 bytes ht hin h1 h2 h3 rfl (by decide) (.slice A L.length c) L.length _ hO.1 ⟨g, o, none⟩ M.length c2 (M.map (Value.int k)) (by simp)
      (fun j u hj => by
        have hjl : j < M.length := by have := (List.getElem?_eq_some_iff.1 hj).1; simpa using this
        have ha : (⟨g, o, none⟩ : Addr).add j = ⟨g, o + j, none⟩ := by unfold Addr.add; split <;> simp_all
        rw [ha, hW.cell hjl]
        rw [List.getElem?_map, List.getElem?_eq_getElem hjl] at hj
        simp only [Option.map_some, Option.some.injEq] at hj
        rw [← hj]
        simp [List.getD_eq_getElem?_getD, hjl]) (ints_oneCell k M) (by simp only [maxLen]; omega) hb hO.2
    obtain ⟨A', c', rfl⟩ := own_slice hown
    have hO' : Ow w' base e k A' c' (L ++ M) := by
      unfold Ow
      rw [List.length_append, List.map_append]
      exact ⟨hown, Nat.le_trans hO.2 hgr.size⟩
    have hr' : (Builtin.append_ #[t, t] ty #[.slice A L.length c, .slice (some ⟨g, o, none⟩) M.length c2]).run P w = .ok (.slice A' (L ++ M).length c') w' := by rw [List.length_append]; exact hr
    refine OE.of_run (fun _ _ _ _ => ?_) (h A' c' w' hO' (below_of_grown hgr hO.2 (own_row_ge hO.1)))
    unfold EV at hx hy
    simp only [execOp, resolve, invoke, builtin, hx, hy, hr', List.map_toArray, List.map_cons, List.map_nil, Sem.run_bind, Sem.run_pure, Result.andThen_ok]
/-- The cells that a store of noughts behind n cells leaves. -/
theorem stC_mid : ∀ (n : Nat) (cs vs : List Value), n + vs.length ≤ cs.length → stC cs n vs = some (cs.take n ++ vs ++ cs.drop (n + vs.length)) := by
  intro n
  induction n with
  | zero =>
    intro cs vs
    induction vs generalizing cs with
    | nil => intro _; simp [stC_nil]
    | cons v vs ih =>
      intro h
      cases cs with
      | nil => simp at h
      | cons c cs =>
        have := ih cs (by simpa using h)
        simp only [Nat.zero_add] at this ⊢
        simp [stC, this]
  | succ n ih =>
    intro cs vs h
    cases cs with
    | nil => simp at h
    | cons c cs =>
      cases vs with
      | nil => simp [stC]
      | cons v vs =>
        have := ih cs (v :: vs) (by simp at h ⊢; omega)
        simp only [stC, this, Option.map_some, List.take_succ_cons, List.cons_append]
        have e : n + 1 + (v :: vs).length = (n + (v :: vs).length) + 1 := by omega
        rw [e, List.drop_succ_cons]
theorem run_append_z (w : World) (base : Nat) (t ti ty e : TypeId) (i : TypeInfo) (z : Value) (bytes : Nat) (ht : P.underlying t = some (.slice e)) {ki : IntKind} (hti : P.underlying ti = some (.int ki)) (hi : P.info? e = some i) (hz : i.zero = some z)
    (hsize : i.size = 1) (hby : i.bytes = bytes) (hzs : z.cells = #[z]) (hz1 : z.oneCell' = true) (hb0 : 0 < bytes) (A : Option Addr) (c : Nat) (n : Nat) (xs : List Value) (hown : w.ownsRow base e 1 (.slice A n c) n xs) (kx : IntKind) (m : Nat) (hm : 0 < m)
    (hbytes : (n + m) * bytes ≤ 140737488355328) (hbase : base ≤ w.heap.size) :
    ∃ A' c' w', (Builtin.append_ #[t, ti] ty #[.slice A n c, .int kx m]).run P w = .ok (.slice A' (n + m) c') w' ∧ w'.ownsRow base e 1 (.slice A' (n + m) c') (n + m) (xs ++ List.replicate m z) ∧ Below base w w' := by
  subst hby
  have hle : n + m ≤ 140737488355328 := Nat.le_trans (Nat.le_mul_of_pos_right _ hb0) hbytes
  have hwm : IntKind.i64.wrap (m : Int) = m := by rw [IntKind.wrap_i64]; omega
  have hneg : ¬ ((m : Int) < 0) := by omega
  have hmb : m * i.bytes ≤ 140737488355328 := Nat.le_trans (Nat.mul_le_mul_right _ (Nat.le_add_left m n)) hbytes
  have hbig : ¬ (281474976710656 < (m : Int) * (i.bytes : Int)) := by
    rw [← Int.natCast_mul]
    omega
  have hm0 : ¬ m = 0 := by omega
  have hzc : ∀ q, Builtin.zeroCells #[z] q = (List.replicate q z).toArray := fun q => by
    simp [Builtin.zeroCells]
    apply Array.ext
    · simp
    · intro j h1 h2; simp [Nat.mod_one]
  have hxl : xs.length = n := by have := hown.1; omega
  have grow : ∀ (A : Option Addr), ¬ (n + m ≤ c) → (Builtin.firstCells 1 n (.slice A n c)).run P w.drew = .ok xs.toArray w.drew →
      ∃ A' c' w', (Builtin.append_ #[t, ti] ty #[.slice A n c, .int kx m]).run P w = .ok (.slice A' (n + m) c') w' ∧ w'.ownsRow base e 1 (.slice A' (n + m) c') (n + m) (xs ++ List.replicate m z) ∧ Below base w w' := by
    intro A hn hfo
    have h63' : ¬ (9223372036854775807 < ((n : Int) + (m : Int))) := by omega
    have hfit := growslice_fits (need := n + m) (old := c) (by omega) hbytes
    have h48' : ¬ (281474976710656 < Builtin.nextslicecap (n + m) c * i.bytes) := by omega
    have hge := grownCap_ge w (n + m) c e
    have hcm : grownCap w (n + m) c e ≤ maxLen := grownCap_le_maxLen w (n + m) c e (by simp only [maxLen]; omega)
    refine ⟨some ⟨w.heap.size, 0, none⟩, grownCap w (n + m) c e, w.drew.alloc (.cells (xs.toArray ++ (List.replicate m z).toArray ++ (List.replicate (grownCap w (n + m) c e - (n + m)) z).toArray) e), ?_, ?_, ?_⟩
    · simp [Builtin.append_, run_underlying ht, run_underlying hti, sizeOf, typeInfo, zeroValue, hi, hz, asInt, asIntOf, hwm, hneg, hbig, hn, h63', h48', Question.forced, hfo, newRow, grownCap, hm0, hsize, hzs, hzc]
    · refine ⟨by simp [hxl], .inr ⟨w.heap.size, _, _, rfl, hbase, heap_alloc_new w.drew _, hge, hcm, ?_, ?_⟩⟩
      · simp [hxl]; omega
      · simp only [Array.toList_append, List.append_assoc]
        rw [← List.append_assoc, Nat.mul_one]
        exact List.take_left' (by simp [hxl])
    · exact ⟨rfl, rfl, rfl, by simp, fun k hk => heap_alloc_old w.drew _ (show k < w.drew.heap.size by simp; omega)⟩
  rcases hown.2 with ⟨hv, hn0⟩ | ⟨g, cap, cur, hv, hbg, hg, hnc, hcm, hcs, htake⟩
  · injection hv with hA hn hc
    subst hA; subst hn; subst hc
    have hx : xs = [] := List.eq_nil_of_length_eq_zero hxl
    subst hx
    exact grow none (by omega) (by simp [Builtin.firstCells])
  · injection hv with hA _ hc
    subst hA; subst hc
    by_cases hroom : n + m ≤ c
    · have hst := stC_mid n cur.toList (List.replicate m z) (by simp; omega)
      obtain ⟨w', hr, hs, hbl⟩ := run_storeCells (P := P) (List.replicate m z) 0 w g n e cur.toList _ (fun u hu => by rw [List.eq_of_mem_replicate hu]; exact hz1) (by simpa using hg) (by simpa using hst)
      have ha : (⟨g, 0, none⟩ : Addr).add n = ⟨g, n, none⟩ := by unfold Addr.add; split <;> simp_all
      refine ⟨some ⟨g, 0, none⟩, c, w', ?_, ?_, ?_⟩
      · simp [Builtin.append_, run_underlying ht, run_underlying hti, sizeOf, typeInfo, zeroValue, hi, hz, asInt, asIntOf, hwm, hneg, hbig, hroom, hm0, hsize, hzs, hzc, ha, hr]
      · refine ⟨by simp [hxl], .inr ⟨g, c, _, rfl, hbg, hbl, hroom, hcm, ?_, ?_⟩⟩
        · simp; omega
        · have ht2 : cur.toList.take n = xs := by simpa using htake
          simp only [List.append_assoc, Nat.mul_one]
          rw [ht2, ← List.append_assoc]
          exact List.take_left' (by simp [hxl])
      · exact ⟨hs.os, hs.tape, hs.output, Nat.le_of_eq hs.size.symm, fun k hk => hs.block k (by omega)⟩
    · have holds : ∀ j u, xs[j]? = some u → w.cell? ((⟨g, 0, none⟩ : Addr).add j) = some u := hown.cells (g := g) rfl
      refine grow (some ⟨g, 0, none⟩) hroom ?_
      have := run_loadCells_list (P := P) w.drew ⟨g, 0, none⟩ xs (fun j u hj => by simpa using holds j u hj)
      rw [hxl] at this
      simpa [Builtin.firstCells] using this
theorem oe_append0 {t ti e : TypeId} {x y : Operand} {k ki kx : IntKind} {A : Option Addr} {c base bytes m : Nat} {j : Int} {L : List Int} {K : Value → World → Prop} (ht : P.underlying t = some (.slice e)) (hti : P.underlying ti = some (.int ki))
    (hi : (P.info? e).map (fun i => (i.zero, i.size, i.bytes)) = some (some (.int k 0), 1, bytes)) (hx : EV n fr x (.slice A L.length c)) (hy : EV n fr y (.int kx j)) (hj : j = (m : Nat)) (hm : 0 < m) (hb0 : 0 < bytes)
    (hO : Ow w base e k A c L) (hb : (L.length + m) * bytes ≤ 140737488355328)
    (h : ∀ A' c' w', Ow w' base e k A' c' (L ++ List.replicate m 0) → Below base w w' → K (.slice A' (L ++ List.replicate m 0).length c') w') : OE P n (.call { callee := .builtin .append, args := #[x, y], argTypes := #[t, ti] }) ty fr w K := by
  subst hj
  cases hin : P.info? e with
  | none => simp [hin] at hi
  | some inf =>
    simp only [hin, Option.map_some, Option.some.injEq, Prod.mk.injEq] at hi
    obtain ⟨h1, h2, h3⟩ := hi
    obtain ⟨A', c', w', hr, hown, hbl⟩ := run_append_z (P := P) w base t ti ty e inf (.int k 0) bytes ht hti hin h1 h2 h3 rfl rfl hb0 A c L.length _ hO.1 kx m hm hb hO.2
    have hO' : Ow w' base e k A' c' (L ++ List.replicate m 0) := by
      unfold Ow
      rw [List.length_append, List.map_append, List.map_replicate, List.length_replicate]
      exact ⟨hown, Nat.le_trans hO.2 hbl.size⟩
    have hr' : (Builtin.append_ #[t, ti] ty #[.slice A L.length c, .int kx m]).run P w = .ok (.slice A' (L ++ List.replicate m 0).length c') w' := by rw [List.length_append, List.length_replicate]; exact hr
    refine OE.of_run (fun _ _ _ _ => ?_) (h A' c' w' hO' hbl)
    unfold EV at hx hy
    simp only [execOp, resolve, invoke, builtin, hx, hy, hr', List.map_toArray, List.map_cons, List.map_nil, Sem.run_bind, Sem.run_pure, Result.andThen_ok]
theorem oe_makeCapW {t e : TypeId} {x y : Operand} {kl kc k : IntKind} {c bytes : Nat} {j : Int} {K : Value → World → Prop} (ht : P.underlying t = some (.slice e))
    (hi : (P.info? e).map (fun i => (i.zero, i.size, i.bytes)) = some (some (.int k 0), 1, bytes)) (hx : EV n fr x (.int kl 0)) (hy : EV n fr y (.int kc j)) (hj : j = (c : Nat)) (hb : bytes * c ≤ 281474976710656) (hl : c ≤ 281474976710656)
    (h : ∀ b w', New w b (.cells (List.replicate c (.int k 0)).toArray e) w' → Ow w' b e k (some ⟨b, 0, none⟩) c [] → K (.slice (some ⟨b, 0, none⟩) 0 c) w') : OE P n (.makeSlice t x y) ty fr w K := by
  subst hj
  exact oe_makeSlice_cap ht hi rfl hx hy hb hl fun b w' hn => h b w' hn (Ow.made hn hl)
def fieldB (P : Program) (s i : Nat) : Option (Nat × Nat) :=
  match P.underlying s with
  | some (.struct fs) => (fs[i]?).map fun f => (f.offset, f.type)
  | _ => none
theorem dv_field {s i off ft : Nat} {x : Operand} {cs : Array Value} {v : Value} (hf : fieldB P s i = some (off, ft)) (ha : aggB P ft = some false) (hx : EV n fr x (.agg cs)) (hc : cs[off]? = some v) : DV P n (.field s x i) ty fr w v := fun _ _ _ _ => by
  unfold EV at hx
  unfold fieldB at hf
  split at hf
  · rename_i fs hs
    simp only [Option.map_eq_some_iff, Prod.mk.injEq] at hf
    obtain ⟨f, hfl, rfl, rfl⟩ := hf
    simp [execOp, hx, Instr.field, underlying, hs, hfl, asAgg, part, run_isAgg ha, hc]
  · cases hf
theorem dv_fields {s i off ft m : Nat} {x : Operand} {cs l : Array Value} (hf : fieldB P s i = some (off, ft)) (ha : aggB P ft = some true) (hm : sizeB P ft = some m) (hx : EV n fr x (.agg cs)) (hc : cs.extract off (off + m) = l) : DV P n (.field s x i) ty fr w (.agg l) := fun _ _ _ _ => by
  unfold EV at hx
  unfold fieldB at hf
  subst hc
  split at hf
  · rename_i fs hs
    simp only [Option.map_eq_some_iff, Prod.mk.injEq] at hf
    obtain ⟨f, hfl, rfl, rfl⟩ := hf
    simp [execOp, hx, Instr.field, underlying, hs, hfl, asAgg, part, run_isAgg ha, run_sizeOf hm]
  · cases hf
end
theorem Ow.rep {w' : World} {b T l : Nat} {k : IntKind} (h : w'.heap[b]? = some (.cells ((List.replicate l (0 : Int)).map (Value.int k)).toArray T)) (hc : l ≤ 281474976710656) : Ow w' b T k (some ⟨b, 0, none⟩) l (List.replicate l 0) := by
  have := Ow.full (w := w') h (by simpa using hc)
  simpa using this
theorem quo_c {k : IntKind} {a b z : Int} (h0 : 0 ≤ a) (hb : 0 ≤ b) (hw : k.wrap (a / b) = z) : k.wrap (a.tdiv b) = z := by rw [Int.tdiv_eq_ediv_of_nonneg h0]; exact hw
theorem rem_c {a b z : Int} (h0 : 0 ≤ a) (hw : a % b = z) : a.tmod b = z := by rw [Int.tmod_eq_emod_of_nonneg h0]; exact hw
theorem shl_v {a b : Int} {K : Nat} (hb : b = (K : Nat)) (hK : K ≤ 64) (h0 : 0 ≤ a) (h1 : a * 2 ^ K < 18446744073709551616) : IntKind.u64.wrap (a * 2 ^ (min b.toNat IntKind.u64.bits)) = a * 2 ^ K := by
  subst hb
  have e : min ((K : Nat) : Int).toNat IntKind.u64.bits = K := by simp only [Int.toNat_natCast, IntKind.bits]; omega
  rw [e]
  exact wn_u64 (Int.mul_nonneg h0 (Int.le_of_lt (Int.pow_pos (by decide)))) h1
end Go.Proofs.Ytpnjkjahfklfnaa.Fw
