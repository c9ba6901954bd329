/- Strings as lists of bytes. Generic over the program. -/
import Derived.Test.YtpnjkjahfklfnaaFw13
import Derived.Test.YtpnjkjahfklfnaaMa11
import Derived.Laws.Concat
import Derived.Laws.Strings
import Derived.Laws.BytesString
set_option linter.unusedVariables false
set_option linter.unusedSimpArgs false
namespace Go.Proofs.Ytpnjkjahfklfnaa.Fw
open Go Go.RowKit
def bOf (l : List Int) : ByteArray := ⟨(l.map fun x => UInt8.ofNat x.toNat).toArray⟩
theorem bOf_size (l : List Int) : (bOf l).size = l.length := by simp [bOf, ByteArray.size]
theorem bOf_append (l m : List Int) : bOf l ++ bOf m = bOf (l ++ m) := by
  unfold bOf
  rw [List.map_append]
  exact ByteArray.mk_append_mk _ _
theorem bOf_list (l : List Int) : (bOf l).toList = l.map fun x => UInt8.ofNat x.toNat := ByteArray.toList_mk _
theorem byte_inj {a b : Int} (ha : 0 ≤ a ∧ a < 256) (hb : 0 ≤ b ∧ b < 256) (h : UInt8.ofNat a.toNat = UInt8.ofNat b.toNat) : a = b := by
  have := congrArg UInt8.toNat h
  simp at this
  omega
theorem bytes_inj : ∀ {l m : List Int}, okW 256 l → okW 256 m → (l.map fun x => UInt8.ofNat x.toNat) = (m.map fun x => UInt8.ofNat x.toNat) → l = m
  | [], [], _, _, _ => rfl
  | [], _ :: _, _, _, h => by simp at h
  | _ :: _, [], _, _, h => by simp at h
  | a :: l, b :: m, ha, hb, h => by
    simp only [List.map_cons, List.cons.injEq] at h
    rw [byte_inj ha.head hb.head h.1, bytes_inj ha.tail hb.tail h.2]
theorem bOf_inj {l m : List Int} (hl : okW 256 l) (hm : okW 256 m) : bOf l = bOf m ↔ l = m :=
  ⟨fun h => bytes_inj hl hm (by rw [← bOf_list, ← bOf_list, h]), fun h => by rw [h]⟩
theorem bOf_beq {l m : List Int} (hl : okW 256 l) (hm : okW 256 m) : ((bOf l).toList == (bOf m).toList) = decide (l = m) := by
  rw [Bool.eq_iff_iff, beq_iff_eq, decide_eq_true_iff, bOf_list, bOf_list]
  exact ⟨bytes_inj hl hm, fun h => by rw [h]⟩
theorem bOf_get {l : List Int} (hl : okW 256 l) {i : Nat} (h : i < (bOf l).size) : (((bOf l)[i]'h).toNat : Int) = l.getD i 0 := by
  have hi : i < l.length := by rwa [bOf_size] at h
  have e : (bOf l)[i]'h = UInt8.ofNat (l[i]).toNat := by
    show (bOf l).data[i] = _
    simp [bOf]
  have hb := hl l[i] (List.getElem_mem hi)
  rw [e, List.getD_eq_getElem?_getD, List.getElem?_eq_getElem hi]
  simp
  omega
theorem bOf_extract (l : List Int) (a b : Nat) : (bOf l).extract a b = bOf ((l.take b).drop a) := by
  apply ByteArray.ext
  rw [ByteArray.data_extract]
  simp [bOf, List.extract_eq_take_drop, List.drop_take, List.map_take, List.map_drop]
/-- Every string is of bytes. -/
theorem bOf_all (s : ByteArray) : ∃ l : List Int, s = bOf l ∧ okW 256 l := by
  refine ⟨s.toList.map fun c => (c.toNat : Int), ?_, ?_⟩
  · apply ByteArray.ext
    rw [ByteArray.toList_eq]
    simp [bOf, Function.comp_def]
  · intro x hx
    obtain ⟨c, hc, rfl⟩ := List.mem_map.1 hx
    have := c.toNat_lt
    omega
theorem bOf_fold : ∀ (l : List Int) (s : ByteArray), l.foldl (fun r n => r.push (UInt8.ofNat n.toNat)) s = s ++ bOf l := by
  intro l
  induction l with
  | nil => intro s; apply ByteArray.ext; simp [bOf, ByteArray.data_append]
  | cons x l ih =>
    intro s
    rw [List.foldl_cons, ih]
    have : bOf (x :: l) = bOf [x] ++ bOf l := by rw [bOf_append]; rfl
    rw [this, ← ByteArray.append_assoc]
    congr 1
    apply ByteArray.ext
    simp [bOf, ByteArray.data_append, ByteArray.data_push]
section
variable {P : Program} {n : Nat} {fr : Fr} {w : World} {ty : TypeId}
theorem dv_lenS {x : Operand} {L : List Int} {t : TypeId} (ht : P.underlying t = some .string) (hx : EV n fr x (.string (bOf L))) :
    DV P n (.call { callee := .builtin .len, args := #[x], argTypes := #[t] }) ty fr w (.int .i64 L.length) := by
  have := dv_lens (w := w) (ty := ty) ht hx
  rwa [bOf_size] at this
theorem dv_indexS {t : TypeId} {x y : Operand} {L : List Int} {k : IntKind} {j : Int} {i : Nat} (ht : P.underlying t = some .string)
    (hx : EV n fr x (.string (bOf L))) (hy : EV n fr y (.int k j)) (hL : okW 256 L) (hj : j = (i : Nat)) (hi : i < L.length) : DV P n (.index t x y) ty fr w (.int .u8 (L.getD i 0)) := by
  subst hj
  exact dv_index_s (z := L.getD i 0) ht hx hy (by omega) (by rw [bOf_size]; simpa using hi) (bOf_get hL _)
theorem dv_addS {x y : Operand} {L M : List Int} {t t' : TypeId} (hx : EV n fr x (.string (bOf L))) (hy : EV n fr y (.string (bOf M))) (hs : L.length + M.length ≤ 9223372036854775807) :
    DV P n (.binOp .add t x y t') ty fr w (.string (bOf (L ++ M))) := fun _ _ _ _ => by
  unfold EV at hx hy
  have h := run_string_add_sum (P := P) (w := w) (bOf L) (bOf M) (by rw [bOf_size, bOf_size]; exact hs)
  simp [execOp, hx, hy, eqGuard, binOp, h, bOf_append]
theorem dv_eqS {x y : Operand} {L M : List Int} {t t' : TypeId} (hx : EV n fr x (.string (bOf L))) (hy : EV n fr y (.string (bOf M))) (hL : okW 256 L) (hM : okW 256 M) :
    DV P n (.binOp .eql t x y t') ty fr w (.bool (decide (L = M))) := fun _ _ _ _ => by
  unfold EV at hx hy
  simp [execOp, hx, hy, eqGuard, binOp_string_eql, bOf_beq hL hM]
theorem dv_neS {x y : Operand} {L M : List Int} {t t' : TypeId} (hx : EV n fr x (.string (bOf L))) (hy : EV n fr y (.string (bOf M))) (hL : okW 256 L) (hM : okW 256 M) :
    DV P n (.binOp .neq t x y t') ty fr w (.bool (decide (L ≠ M))) := fun _ _ _ _ => by
  unfold EV at hx hy
  simp [execOp, hx, hy, eqGuard, binOp_string_neq, bOf_beq hL hM]
/-- s[i:], s[:j], s[i:j]. -/
theorem dv_sliceSl {t : TypeId} {x a : Operand} {L : List Int} {k : IntKind} {j : Int} {i : Nat} (ht : P.underlying t = some .string) (hx : EV n fr x (.string (bOf L))) (ha : EV n fr a (.int k j)) (hj : j = (i : Nat)) (hi : i ≤ L.length) :
    DV P n (.slice t x (some a) none none) ty fr w (.string (bOf (L.drop i))) := fun _ _ _ _ => by
  unfold EV at hx ha
  subst hj
  have hs := bOf_size L
  have e : (bOf L).extract i (bOf L).size = bOf (L.drop i) := by rw [bOf_extract, hs, List.take_of_length_le (Nat.le_refl _)]
  have h1 : ¬ ((bOf L).size : Int) < (i : Int) := by omega
  simp [execOp, hx, ha, Instr.sliceAt, underlying, ht, Instr.slice, Instr.sliceBounds, Instr.sliceBound, asIntOf, hs, hi, ← e]
theorem dv_sliceSh {t : TypeId} {x a : Operand} {L : List Int} {k : IntKind} {j : Int} {i : Nat} (ht : P.underlying t = some .string) (hx : EV n fr x (.string (bOf L))) (ha : EV n fr a (.int k j)) (hj : j = (i : Nat)) (hi : i ≤ L.length) :
    DV P n (.slice t x none (some a) none) ty fr w (.string (bOf (L.take i))) := fun _ _ _ _ => by
  unfold EV at hx ha
  subst hj
  have hs := bOf_size L
  have e : (bOf L).extract 0 i = bOf (L.take i) := by rw [bOf_extract]; simp
  simp [execOp, hx, ha, Instr.sliceAt, underlying, ht, Instr.slice, Instr.sliceBounds, Instr.sliceBound, asIntOf, hs, hi, ← e]
theorem dv_sliceSb {t : TypeId} {x a b : Operand} {L : List Int} {k k' : IntKind} {j j' : Int} {i i' : Nat} (ht : P.underlying t = some .string) (hx : EV n fr x (.string (bOf L))) (ha : EV n fr a (.int k j)) (hb : EV n fr b (.int k' j')) (hj : j = (i : Nat)) (hj' : j' = (i' : Nat)) (h1 : i ≤ i') (h2 : i' ≤ L.length) :
    DV P n (.slice t x (some a) (some b) none) ty fr w (.string (bOf ((L.take i').drop i))) := fun _ _ _ _ => by
  unfold EV at hx ha hb
  subst hj; subst hj'
  have hs := bOf_size L
  have e : (bOf L).extract i i' = bOf ((L.take i').drop i) := bOf_extract L i i'
  have h3 : (i : Int) ≤ (i' : Int) := by omega
  simp [execOp, hx, ha, hb, Instr.sliceAt, underlying, ht, Instr.slice, Instr.sliceBounds, Instr.sliceBound, asIntOf, hs, h1, h2, h3, ← e]
/-- string(bytes). -/
theorem dv_convBS {x : Operand} {t t' e : TypeId} {A : Option Addr} {l c T : Nat} {L : List Int} (ht : P.underlying t = some (.slice e)) (he : P.underlying e = some (.int .u8)) (hd : P.underlying t' = some .string) (hx : EV n fr x (.slice A l c)) (hW : Wd w T .u8 A L) (hl : L.length = l) :
    DV P n (.convert t t' x) ty fr w (.string (bOf L)) := fun _ _ _ _ => by
  unfold EV at hx
  have h : (convert t t' (.slice A l c)).run P w = .ok (.string (bOf L)) w := by
    rw [run_convert_bytes_string w t t' e A l c ht he hd]
    rcases hW with ⟨h1, h2⟩ | ⟨g, o, cs, fz, h1, h2, h3⟩
    · subst h1; subst h2; simp [Conv.bytesToString]; rfl
    · subst h1
      have hc : (loadCells ⟨g, o, none⟩ l).run P w = .ok (L.map (Value.int .u8)).toArray w := by
        have := run_loadCells_list (P := P) w ⟨g, o, none⟩ (L.map (Value.int .u8)) (fun j v hj => by
          have hjl : j < L.length := by have := (List.getElem?_eq_some_iff.1 hj).1; simpa using this
          have ha : (⟨g, o, none⟩ : Addr).add j = ⟨g, o + j, none⟩ := by unfold Addr.add; split <;> simp_all
          rw [ha, cell_of_row w g (o + j) cs T fz h2, h3 j L[j] (List.getElem?_eq_getElem hjl)]
          simpa [hjl] using hj)
        simpa [hl] using this
      rw [run_bytesToString w _ l c L hc, bOf_fold]
      simp
  simp [execOp, hx, h]
end
theorem okC_txt (z : Int) : okW 256 (txtL z) := by
  intro c hc
  unfold txtL at hc
  rcases List.mem_append.1 hc with h | h
  · split at h
    · have : c = 45 := by simpa using h
      omega
    · cases h
  · split at h
    · have : c = 48 := by simpa using h
      omega
    · have := dg_rg z.natAbs c (by simpa using h)
      omega
end Go.Proofs.Ytpnjkjahfklfnaa.Fw
