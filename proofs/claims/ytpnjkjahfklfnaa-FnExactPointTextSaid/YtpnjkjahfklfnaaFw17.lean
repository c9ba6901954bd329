/- Reversing a row; texts. -/
import Derived.Test.YtpnjkjahfklfnaaFw16
import Derived.Test.YtpnjkjahfklfnaaFw14
import Derived.Test.YtpnjkjahfklfnaaMa11
set_option linter.unusedVariables false
set_option linter.unusedSimpArgs false
namespace Go.Proofs.Ytpnjkjahfklfnaa.Fw
open Go Go.RowKit
def rvI (L : List Int) (i : Nat) (M : List Int) : Prop := M.length = L.length ∧ ∀ k, k < L.length → M.getD k 0 = if k < i ∨ L.length < k + 1 + i then L.getD (L.length - 1 - k) 0 else L.getD k 0
theorem rv0 (L : List Int) : rvI L 0 L := ⟨rfl, fun k hk => by rw [if_neg (by omega)]⟩
theorem getD_set (M : List Int) (i k : Nat) (x : Int) (hi : i < M.length) : (M.set i x).getD k 0 = if k = i then x else M.getD k 0 := by
  simp only [List.getD_eq_getElem?_getD, List.getElem?_set]
  by_cases h : i = k
  · subst h; simp [hi]
  · rw [if_neg h, if_neg (fun hh => h hh.symm)]
theorem rv_step {L M : List Int} {i j : Nat} (h : rvI L i M) (hij : i < j) (hj : i + j + 1 = L.length) : rvI L (i + 1) ((M.set i (M.getD j 0)).set j (M.getD i 0)) := by
  obtain ⟨h1, h2⟩ := h
  refine ⟨by simp [h1], fun k hk => ?_⟩
  rw [getD_set _ _ _ _ (by simp; omega), getD_set _ _ _ _ (by omega)]
  have ei := h2 i (by omega); have ej := h2 j (by omega); have ek := h2 k hk
  rw [if_neg (by omega)] at ei; rw [if_neg (by omega)] at ej
  by_cases hkj : k = j
  · subst hkj; rw [if_pos rfl, if_pos (by omega), ei]; congr 1; omega
  · rw [if_neg hkj]
    by_cases hki : k = i
    · subst hki; rw [if_pos rfl, if_pos (by omega), ej]; congr 1; omega
    · rw [if_neg hki, ek]
      by_cases hc : k < i ∨ L.length < k + 1 + i
      · rw [if_pos hc, if_pos (by omega)]
      · rw [if_neg hc, if_neg (by omega)]
theorem rv_done {L M : List Int} {i : Nat} (h : rvI L i M) (hi : L.length ≤ 2 * i + 1) : M = L.reverse := by
  obtain ⟨h1, h2⟩ := h
  apply List.ext_getElem (by simp [h1])
  intro k hk hk2
  have hkL : k < L.length := by omega
  have e := h2 k hkL
  rw [List.getElem_reverse]
  have e1 : M.getD k 0 = M[k] := by simp [List.getD_eq_getElem?_getD, hk]
  have e2 : ∀ m (hm : m < L.length), L.getD m 0 = L[m] := fun m hm => by simp [List.getD_eq_getElem?_getD, hm]
  rw [e1] at e
  rw [e]
  split
  · exact e2 _ _
  · rw [e2 k hkL]; congr 1; omega
section
variable {P : Program} {n : Nat} {fr : Fr} {w : World}
theorem res0 {fn : Func} (h : fn.results = #[]) : (results fn (actOf n fr).tmps).run P w = .ok (.tuple #[]) w := by
  rw [results_eq, h]
  simp [Sem.run_bind]
end
/-- What lies elsewhere than in blocks of type T stays. -/
structure Bt (T : Nat) (w w' : World) : Prop where
  keep : ∀ (g : Nat) (o : Obj), w.heap[g]? = some o → (∀ (cs : Array Value) (fz : Nat × Nat), o ≠ Obj.cells cs T fz) → w'.heap[g]? = some o
theorem bt_of_grown {w w' : World} {base T c : Nat} {k : IntKind} {A : Option Addr} {L : List Int} (hO : Ow w base T k A c L) (h : w.grownBy w' (Value.ownBlock (.slice A L.length c))) : Bt T w w' := ⟨fun g o hg hne => by
  have hk := lt_of_blk hg
  refine (h.block g hk (fun he => ?_)).trans hg
  rcases hO.1.2 with ⟨hv, hn⟩ | ⟨g', cap, cur, hv, hb, hg', _⟩
  · injection hv with hA _ _
    rw [hA] at he
    simp [Value.ownBlock] at he
  · injection hv with hA _ hc
    rw [hA] at he
    simp only [Value.ownBlock, Option.some.injEq] at he
    subst he
    rw [hg'] at hg
    exact hne _ _ (Option.some.inj hg).symm⟩
theorem Wd.bt {w w' : World} {T T' : Nat} {k : IntKind} {A : Option Addr} {xs : List Int} (h : Wd w T' k A xs) (e : Bt T w w') (hT : T' ≠ T) : Wd w' T' k A xs := by
  rcases h with h | ⟨g, off, cs, fz, hA, hg, hc⟩
  · exact .inl h
  · exact .inr ⟨g, off, cs, fz, hA, e.keep _ _ hg (fun cs' fz' he => by injection he with _ h2 _; exact hT h2), hc⟩
theorem Wc.bt {m T T' : Nat} {k : IntKind} {w w' : World} {A : Option Addr} {l c : Nat} {x : Int} (h : Wc m T' k w A l c x) (e : Bt T w w') (hT : T' ≠ T) : Wc m T' k w' A l c x := by
  obtain ⟨xs, h1, h2, h3, h4⟩ := h
  exact ⟨xs, h1, h2, h3.bt e hT, h4⟩
theorem Wc.lit1 {m T b : Nat} {k : IntKind} {w : World} {x : Int} (H : w.heap[b]? = some (.cells #[.int k x] T)) (hx : 0 < x ∧ x < 2 ^ m) : Wc m T k w (some ⟨b, 0, none⟩) 1 1 x :=
  ⟨[x], rfl, Nat.le_refl _, Wd.ownW (xs := [x]) H, fun y hy => by
    have : y = x := by simpa using hy
    subst this
    omega, by simp [canon]; omega, by simp [valB]⟩
theorem one_word {m : Nat} {ys : List Int} {x : Int} (ok : okW (2 ^ m) ys) (hl : 0 < ys.length) (hv : x = valB (2 ^ m) ys) (hx : x < 2 ^ m) : ys.getD 0 0 = x := by
  cases ys with
  | nil => simp at hl
  | cons a t =>
    have ha := ok a (List.mem_cons_self ..)
    have ht : 0 ≤ valB (2 ^ m) t := valB_nonneg (Int.le_of_lt (two_pos m)) (fun z hz => ok z (List.mem_cons_of_mem _ hz))
    have e : valB (2 ^ m) (a :: t) = a + 2 ^ m * valB (2 ^ m) t := rfl
    have h0 : valB (2 ^ m) t = 0 := by
      rcases Int.lt_or_le 0 (valB (2 ^ m) t) with h | h
      · have := Int.mul_le_mul_of_nonneg_left (show 1 ≤ valB (2 ^ m) t by omega) (Int.le_of_lt (two_pos m))
        rw [Int.mul_one] at this
        omega
      · omega
    rw [e, h0, Int.mul_zero, Int.add_zero] at hv
    simp [hv]
theorem txt_fin {z : Int} {L : List Int} (h : L = dg z.natAbs) : ((if z = 0 then [48] else L) ++ (if z < 0 then [45] else [])).reverse = txtL z := by
  subst h
  unfold txtL
  rw [List.reverse_append]
  congr 1
  · split <;> rfl
  · split <;> rfl
theorem txt_fin00 {z : Int} {L : List Int} (h : L = dg z.natAbs) (h0 : ¬ L.length = 0) (hn : ¬ z < 0) : L.reverse = txtL z := by
  have hz : z ≠ 0 := fun hz => h0 (by rw [h, hz]; simp [dg_zero])
  have := txt_fin h
  rwa [if_neg hz, if_neg hn, List.append_nil] at this
theorem txt_fin01 {z : Int} {L : List Int} (h : L = dg z.natAbs) (h0 : ¬ L.length = 0) (hn : z < 0) : (L ++ [45]).reverse = txtL z := by
  have hz : z ≠ 0 := by omega
  have := txt_fin h
  rwa [if_neg hz, if_pos hn] at this
theorem txt_fin10 {z : Int} {L : List Int} (h : L = dg z.natAbs) (h0 : L.length = 0) : (L ++ [48]).reverse = txtL z ∧ ¬ z < 0 := by
  have h1 : L = [] := List.eq_nil_of_length_eq_zero h0
  have hz : z = 0 := by
    rw [h1] at h
    have := dg_nil.1 h.symm
    omega
  subst hz; subst h1
  exact ⟨by simp [txtL], by omega⟩
theorem dg_bits {n s : Nat} (h : n < 2 ^ s) : (dg n).length ≤ s := dg_len.2 (Nat.lt_of_lt_of_le h (Nat.pow_le_pow_left (by decide) s))
theorem txt_len {z : Int} {s : Nat} (h : z.natAbs < 2 ^ s) : (txtL z).length ≤ s + 2 := by
  have := dg_bits h
  unfold txtL
  rw [List.length_append]
  split <;> split <;> simp <;> omega
section
variable {P : Program} {n : Nat} {fr : Fr} {w : World} {ty : TypeId}
theorem oe_appendT {t e : TypeId} {x y : Operand} {k : IntKind} {A : Option Addr} {c base bytes g o c2 m : Nat} {L M : List Int} {K : Value → World → Prop} (ht : P.underlying t = some (.slice e))
    (hi : (P.info? e).map (fun i => (i.zero, i.size, i.bytes)) = some (some (.int k 0), 1, bytes)) (hx : EV n fr x (.slice A L.length c)) (hy : EV n fr y (.slice (some ⟨g, o, none⟩) m c2))
    (hO : Ow w base e k A c L) (hW : Wd w e k (some ⟨g, o, none⟩) M) (hm : M.length = m) (hb : (L.length + m) * bytes ≤ 140737488355328) (hl : L.length + m ≤ 140737488355328)
    (h : ∀ A' c' w', Ow w' base e k A' c' (L ++ M) → Below base w w' → Bt e w w' → K (.slice A' (L ++ M).length c') w') : OE P n (.call { callee := .builtin .append, args := #[x, y], argTypes := #[t, t] }) ty fr w K := by
  cases hin : P.info? e with
  | none => simp [hin] at hi
  | some inf =>
    simp only [hin, Option.map_some, Option.some.injEq, Prod.mk.injEq] at hi
    obtain ⟨h1, h2, h3⟩ := hi
    subst hm
    obtain ⟨v', w', hr, hown, hgr, _⟩ := run_append_own (P := P) w base t ty e inf (.int k 0) 1 bytes ht hin h1 h2 h3 rfl (by decide) (.slice A L.length c) L.length _ hO.1 ⟨g, o, none⟩ M.length c2 (M.map (Value.int k)) (by simp)
      (fun j u hj => by
        have hjl : j < M.length := by have := (List.getElem?_eq_some_iff.1 hj).1; simpa using this
        have ha : (⟨g, o, none⟩ : Addr).add j = ⟨g, o + j, none⟩ := by unfold Addr.add; split <;> simp_all
        rw [ha, hW.cell hjl]
        rw [List.getElem?_map, List.getElem?_eq_getElem hjl] at hj
        simp only [Option.map_some, Option.some.injEq] at hj
        rw [← hj]
        simp [List.getD_eq_getElem?_getD, hjl]) (ints_oneCell k M) (by simp only [maxLen]; omega) hb hO.2
    obtain ⟨A', c', rfl⟩ := own_slice hown
    have hO' : Ow w' base e k A' c' (L ++ M) := by
      unfold Ow
      rw [List.length_append, List.map_append]
      exact ⟨hown, Nat.le_trans hO.2 hgr.size⟩
    have hr' : (Builtin.append_ #[t, t] ty #[.slice A L.length c, .slice (some ⟨g, o, none⟩) M.length c2]).run P w = .ok (.slice A' (L ++ M).length c') w' := by rw [List.length_append]; exact hr
    refine OE.of_run (fun _ _ _ _ => ?_) (h A' c' w' hO' (below_of_grown hgr hO.2 (own_row_ge hO.1)) (bt_of_grown hO hgr))
    unfold EV at hx hy
    simp only [execOp, resolve, invoke, builtin, hx, hy, hr', List.map_toArray, List.map_cons, List.map_nil, Sem.run_bind, Sem.run_pure, Result.andThen_ok]
theorem oe_buildSlice0 {t e : TypeId} {sz : Nat} {K : Value → World → Prop} (ht : P.underlying t = some (.slice e)) (hs : sizeB P e = some sz)
    (h : ∀ b w', New w b (.cells #[] e) w' → K (.slice (some ⟨b, 0, none⟩) 0 0) w') : OE P n (.buildSlice t 0 #[]) ty fr w K :=
  OE.of_run (v := .slice (some ⟨w.heap.size, 0, none⟩) 0 0) (w' := w.alloc (.cells #[] e)) (fun _ _ _ _ => by
    have h1 : ¬ (0 * sz > 2 ^ 24) := by simp
    have h2 : 0 * sz = 0 := Nat.zero_mul _
    simp only [execOp, Instr.buildSlice, Sem.run_bind, underlying, Sem.run_pure, run_program, ht, Result.andThen_ok, run_sizeOf hs, if_neg h1, if_pos h2]
    have e1 : ((Array.range (0 * sz)).map fun x => (#[] : Array Value)[x % (#[] : Array Value).size]!) = #[] := by rw [h2]; simp
    simp only [e1, List.map_toArray, List.map_nil, Instr.fill, newRow, run_newObj, Sem.run_bind, Sem.run_pure, Result.andThen_ok]
    rfl) (h _ _ (new_alloc w _))
end
end Go.Proofs.Ytpnjkjahfklfnaa.Fw
