/- Walks and plain mathematics, packed by a program of this session: declarations that the rows reach. -/
import Derived.Lib.IndexMore
import Derived.Deep.Slices
import Derived.Test.YtfmkadgjoechnaaPpa
set_option linter.unusedVariables false
set_option linter.unusedSimpArgs false
namespace Go.Proofs.Ytfmkadgjoechnaa.Fw
open Go Go.RowKit
theorem valD_take {cs : List Int} {i : Nat} (h : i < cs.length) : valD (cs.take (i + 1)) = valD (cs.take i) * 10 + (cs.getD i 0 - 48) := by
  rw [List.take_succ_eq_append_getElem h, valD_snoc]
  simp [List.getD_eq_getElem?_getD, h]
theorem valD_lt : ∀ (n : Nat) {cs : List Int}, cs.length = n → (∀ c ∈ cs, isD c) → valD cs < 10 ^ n := by
  intro n
  induction n with
  | zero => intro cs hl _; have : cs = [] := List.eq_nil_of_length_eq_zero hl; subst this; decide
  | succ n ih =>
    intro cs hl h
    have hs := list_snoc cs (by omega)
    rw [hs, valD_snoc, Int.pow_succ]
    have h1 := ih (cs := cs.take (cs.length - 1)) (by simp; omega) fun c hc => h c (List.mem_of_mem_take hc)
    have h2 := h (cs.getD (cs.length - 1) 0) (by
      rw [List.getD_eq_getElem?_getD, List.getElem?_eq_getElem (by omega)]; exact List.getElem_mem _)
    unfold isD at h2; omega
theorem valD_sz {cs : List Int} {s : Nat} (h : ∀ c ∈ cs, isD c) (hl : 4 * cs.length ≤ s) : (valD cs).natAbs < 2 ^ s := by
  have h1 := valD_nonneg _ rfl h
  have h2 := valD_lt _ rfl h
  have h3 : (10 : Int) ^ cs.length ≤ 2 ^ s := by
    have e : ((10 : Nat) ^ cs.length) ≤ 2 ^ s := by
      refine Nat.le_trans (Nat.pow_le_pow_left (show 10 ≤ 2 ^ 4 by decide) _) ?_
      rw [← Nat.pow_mul]
      exact Nat.pow_le_pow_right (by decide) hl
    exact_mod_cast e
  have e2 : ((2 ^ s : Nat) : Int) = 2 ^ s := by simp
  omega
theorem isD_take {cs : List Int} {i : Nat} (h : i < cs.length) (h1 : ∀ c ∈ cs.take i, isD c) (h2 : isD (cs.getD i 0)) : ∀ c ∈ cs.take (i + 1), isD c := by
  rw [List.take_succ_eq_append_getElem h]
  intro c hc
  rcases List.mem_append.1 hc with h3 | h3
  · exact h1 c h3
  · have e : c = cs.getD i 0 := by simpa [List.getD_eq_getElem?_getD, h] using h3
    rw [e]; exact h2
theorem not_isD {cs : List Int} {i : Nat} (h : i < cs.length) (h2 : ¬ isD (cs.getD i 0)) : ¬ ∀ c ∈ cs, isD c := fun hh => h2 (hh _ (by
  rw [List.getD_eq_getElem?_getD, List.getElem?_eq_getElem h]; exact List.getElem_mem _))
theorem digD_t {L : List Int} (h : L.getD 0 0 = 45) : digD L = L.drop 1 ∧ negD L = true := ⟨by unfold digD; rw [if_pos h], decide_eq_true h⟩
theorem digD_f {L : List Int} (h : ¬ L.getD 0 0 = 45) : digD L = L ∧ negD L = false := ⟨by unfold digD; rw [if_neg h], decide_eq_false h⟩
theorem digD_ok {L : List Int} (h : okW 256 L) : okW 256 (digD L) := by
  unfold digD; split
  · exact fun c hc => h c (List.mem_of_mem_drop hc)
  · exact h
theorem okW_drop {B : Int} {L : List Int} (h : okW B L) (i : Nat) : okW B (L.drop i) := fun c hc => h c (List.mem_of_mem_drop hc)
theorem okW_take {B : Int} {L : List Int} (h : okW B L) (i : Nat) : okW B (L.take i) := fun c hc => h c (List.mem_of_mem_take hc)
theorem fits_lt77 {z : Int} (h : fits z) : z.natAbs < 10 ^ 77 := by
  have e : (10 : Nat) ^ 77 = 100000000000000000000000000000000000000000000000000000000000000000000000000000 := by decide
  unfold fits at h; omega
theorem canD_len77 {L : List Int} (h : canD L) (hf : fits (numD L)) : (digD L).length ≤ 77 ∧ L.length ≤ 78 := by
  have := canD_len h (fits_lt77 hf)
  omega
theorem rd_impl {L : List Int} : (canD L ∧ L.length ≤ 100) ∧ fits (numD L) ↔ canD L ∧ fits (numD L) :=
  ⟨fun h => ⟨h.1.1, h.2⟩, fun h => ⟨⟨h.1, by have := canD_len77 h.1 h.2; omega⟩, h.2⟩⟩
theorem rd_spec {L : List Int} : (formD L ∧ (digD L).length ≤ 77) ∧ fits (numD L) ↔ canD L ∧ fits (numD L) :=
  ⟨fun h => ⟨canD_of_form h.1.1, h.2⟩, fun h => ⟨⟨form_of_canD h.1, (canD_len77 h.1 h.2).1⟩, h.2⟩⟩
theorem canD_txt (z : Int) : canD (txtL z) ∧ numD (txtL z) = z := by
  have h0 : numD (txtL z) = z := by
    by_cases hz : z = 0
    · subst hz; decide
    · have hd : ∀ c ∈ dg z.natAbs, 48 ≤ c ∧ c ≤ 57 := dg_rg _
      have hne : dg z.natAbs ≠ [] := fun h => hz (by have := dg_nil.1 h; omega)
      have hv := valD_dg z.natAbs
      by_cases hn : z < 0
      · have e : txtL z = 45 :: (dg z.natAbs).reverse := by unfold txtL; rw [if_pos hn, if_neg hz]; rfl
        rw [e]
        unfold numD negD digD
        simp only [List.getD_cons_zero, decide_true, if_true, List.drop_succ_cons, List.drop_zero, sg, hv]
        omega
      · have e : txtL z = (dg z.natAbs).reverse := by unfold txtL; rw [if_neg hn, if_neg hz]; rfl
        rw [e]
        have h45 : ¬ (dg z.natAbs).reverse.getD 0 0 = 45 := by
          have hl : 0 < (dg z.natAbs).reverse.length := by
            rw [List.length_reverse]; cases hq : dg z.natAbs with
            | nil => exact absurd hq hne
            | cons a b => simp
          have hm : (dg z.natAbs).reverse.getD 0 0 ∈ dg z.natAbs := by
            rw [List.getD_eq_getElem?_getD, List.getElem?_eq_getElem hl]
            exact List.mem_reverse.1 (List.getElem_mem _)
          have := hd _ hm
          omega
        unfold numD
        rw [(digD_f h45).1, (digD_f h45).2, hv]
        simp [sg]; omega
  refine ⟨?_, h0⟩
  unfold canD; rw [h0]
end Go.Proofs.Ytfmkadgjoechnaa.Fw
set_option linter.unusedVariables false
set_option linter.unusedSimpArgs false
namespace Go.Proofs.Ytfmkadgjoechnaa.Fw
open Go Go.RowKit
instance (L : List Int) : Decidable (formD L) := by unfold formD; infer_instance
abbrev fz (z : Int) : Int := pkz (fits z) z
abbrev rdS (L : List Int) : Prop := canD L ∧ fits (numD L)
abbrev rdZ (L : List Int) : Int := pkz (rdS L) (numD L)
theorem rdZ_f (L : List Int) : fits (rdZ L) := fits_pkz fun h => h.2
theorem rdS_txt {z : Int} (h : fits z) : rdS (txtL z) ∧ rdZ (txtL z) = z := by
  have h2 := canD_txt z
  have hs : rdS (txtL z) := ⟨h2.1, by rw [h2.2]; exact h⟩
  exact ⟨hs, by unfold rdZ; rw [pkz_t hs, h2.2]⟩
theorem okD {L D : List Int} (h : digD L = D) (hL : okW 256 L) : okW 256 D := h ▸ digD_ok hL
theorem getD0 {L : List Int} (h : ¬ (0 : Int) < (L.length : Int)) : ¬ L.getD 0 0 = 45 := by
  have h0 : L = [] := List.eq_nil_of_length_eq_zero (by omega)
  subst h0; decide
theorem formD_iff {L D : List Int} {ng : Bool} (hD : digD L = D) (hn : negD L = ng) : formD L ↔ 0 < D.length ∧ (∀ c ∈ D, isD c) ∧ (D.getD 0 0 = 48 → ng = false ∧ D.length = 1) := by
  subst hD; subst hn; exact Iff.rfl
theorem not_formD {L D : List Int} {i : Nat} (hD : digD L = D) (hi : i < D.length) (h : ¬ isD (D.getD i 0)) : ¬ formD L := fun hh => not_isD hi h (hD ▸ hh.2.1)
theorem numD_of {L D : List Int} {ng : Bool} {i : Nat} (hD : digD L = D) (hn : negD L = ng) (hi : D.length ≤ i) (hdg : ∀ c ∈ D.take i, isD c) : sg ng ((valD (D.take i)).natAbs : Int) = numD L ∧ ∀ c ∈ D, isD c := by
  rw [List.take_of_length_le hi] at hdg ⊢
  have h0 := valD_nonneg _ rfl hdg
  refine ⟨?_, hdg⟩
  unfold numD; rw [hD, hn]
  congr 1; omega
theorem numD_of2 {L D : List Int} {ng : Bool} {i : Nat} (hD : digD L = D) (hn : negD L = ng) (hi : D.length ≤ i) : sg ng (valD (D.take i)) = numD L := by
  rw [List.take_of_length_le hi]
  unfold numD; rw [hD, hn]
end Go.Proofs.Ytfmkadgjoechnaa.Fw
set_option linter.unusedVariables false
namespace Go.Proofs.Ytfmkadgjoechnaa.Fw
open Go Go.RowKit
theorem ok_str {P : Program} {w : World} {r : Reach} {base : Nat} {t : TypeId} {v : Value} (ht : P.underlying t = some .string) (h : Value.okWide P w r base t v) : ∃ s : ByteArray, v = .string s ∧ (s.size : Int) ≤ IntKind.i64.max := by
  unfold Value.okWide at h
  rw [ht] at h
  simp only at h
  unfold Cell.okWide at h
  rw [ht] at h
  simp only at h
  unfold Cell.ok at h
  rw [ht] at h
  cases v <;> simp only at h
  exact ⟨_, rfl, h⟩
theorem okC_lit (l : List Int) (h : l.all (fun x => decide (0 ≤ x ∧ x < 256)) = true) : okW 256 l := fun c hc => by
  have := List.all_eq_true.1 h c hc
  simpa using this
end Go.Proofs.Ytfmkadgjoechnaa.Fw
set_option linter.unusedVariables false
set_option linter.unusedSimpArgs false
namespace Go.Proofs.Ytfmkadgjoechnaa.Fw
open Go Go.RowKit
def fi (c : Int) : List Int → Nat
  | [] => 0
  | x :: l => if x = c then 0 else fi c l + 1
theorem fi_le (c : Int) : ∀ L : List Int, fi c L ≤ L.length
  | [] => Nat.le_refl _
  | x :: l => by
    unfold fi; split
    · exact Nat.zero_le _
    · have := fi_le c l; simp; omega
theorem fi_app {c : Int} : ∀ {A B : List Int}, (∀ x ∈ A, x ≠ c) → fi c (A ++ c :: B) = A.length
  | [], B, _ => by simp [fi]
  | a :: A, B, h => by
    have h1 := h a (List.mem_cons_self ..)
    have := fi_app (A := A) (B := B) fun x hx => h x (List.mem_cons_of_mem _ hx)
    simp [fi, h1, this]
theorem fi_none {c : Int} : ∀ {A : List Int}, (∀ x ∈ A, x ≠ c) → fi c A = A.length
  | [], _ => rfl
  | a :: A, h => by
    have h1 := h a (List.mem_cons_self ..)
    have := fi_none (A := A) fun x hx => h x (List.mem_cons_of_mem _ hx)
    simp [fi, h1, this]
theorem ix_fi {c : Int} (hc : 0 ≤ c ∧ c < 256) : ∀ {L : List Int}, okW 256 L → Lib.index (L.map fun x => UInt8.ofNat x.toNat) [UInt8.ofNat c.toNat] = if fi c L < L.length then (fi c L : Int) else -1
  | [], _ => by rfl
  | x :: l, h => by
    have hx := h x (List.mem_cons_self ..)
    have ih := ix_fi hc (L := l) fun y hy => h y (List.mem_cons_of_mem _ hy)
    have e : ([UInt8.ofNat c.toNat].isPrefixOf ((x :: l).map fun x => UInt8.ofNat x.toNat)) = decide (x = c) := by
      simp only [List.map_cons, List.isPrefixOf, Bool.and_true]
      rw [Bool.eq_iff_iff]
      simp only [beq_iff_eq, decide_eq_true_iff]
      exact ⟨fun hh => (byte_inj hc hx hh).symm, fun hh => by rw [hh]⟩
    rw [List.map_cons] at e ⊢
    unfold Lib.index
    rw [e]
    by_cases hxc : x = c
    · rw [decide_eq_true hxc, if_pos rfl]
      unfold fi; rw [if_pos hxc, if_pos (by simp)]; rfl
    · rw [decide_eq_false hxc, if_neg (by decide), ih]
      have hf : fi c (x :: l) = fi c l + 1 := by show (if x = c then 0 else fi c l + 1) = _; rw [if_neg hxc]
      rw [hf]
      by_cases hl : fi c l < l.length
      · have hl2 : fi c l + 1 < (x :: l).length := by simp; omega
        simp only [if_pos hl, if_pos hl2]
        have : ((fi c l : Int) == -1) = false := by rw [beq_eq_false_iff_ne]; omega
        rw [this]; simp
      · have hl2 : ¬ fi c l + 1 < (x :: l).length := by simp; omega
        simp only [if_neg hl, if_neg hl2]; rfl
theorem cut_fi {c : Int} (hc : 0 ≤ c ∧ c < 256) {L : List Int} (hL : okW 256 L) :
    (⟨(Lib.cut (bOf L).data.toList (bOf [c]).data.toList).1.toArray⟩ : ByteArray) = bOf (L.take (fi c L)) ∧ (⟨(Lib.cut (bOf L).data.toList (bOf [c]).data.toList).2.1.toArray⟩ : ByteArray) = bOf (L.drop (fi c L + 1)) ∧
      (Lib.cut (bOf L).data.toList (bOf [c]).data.toList).2.2 = decide (fi c L < L.length) := by
  have e1 : (bOf L).data.toList = L.map fun x => UInt8.ofNat x.toNat := by simp [bOf]
  have e2 : (bOf [c]).data.toList = [UInt8.ofNat c.toNat] := by simp [bOf]
  rw [e1, e2]
  have hi := ix_fi hc hL
  have hle := fi_le c L
  unfold Lib.cut
  rw [hi]
  by_cases hl : fi c L < L.length
  · rw [if_pos hl, if_pos (by omega)]
    refine ⟨?_, ?_, (decide_eq_true hl).symm⟩
    · simp [bOf, List.map_take]
    · have : ((fi c L : Nat) : Int).toNat + [UInt8.ofNat c.toNat].length = fi c L + 1 := by simp
      simp [bOf, List.map_drop]
  · rw [if_neg hl, if_neg (by omega)]
    refine ⟨?_, ?_, (decide_eq_false hl).symm⟩
    · rw [List.take_of_length_le (by omega)]; simp [bOf]
    · rw [List.drop_of_length_le (by omega)]; simp [bOf]
def MLn (g : Nat) (w : World) : Prop := ∃ m : Int, w.cell? ⟨g, 0, none⟩ = some (.int .i64 m)
theorem MLn.ext {g : Nat} {w w' : World} (h : MLn g w) (e : Ext w w') : MLn g w' := by
  obtain ⟨m, hm⟩ := h
  refine ⟨m, ?_⟩
  unfold World.cell? at hm ⊢
  simp only at hm ⊢
  cases hg : w.heap[g]? with
  | none => rw [hg] at hm; cases hm
  | some o => rw [hg] at hm; rw [e.blk hg]; exact hm
theorem txt_bytes (z : Int) : ∀ c ∈ txtL z, c = 45 ∨ (48 ≤ c ∧ c ≤ 57) := by
  intro c hc
  unfold txtL at hc
  rcases List.mem_append.1 hc with h | h
  · split at h
    · exact .inl (by simpa using h)
    · cases h
  · split at h
    · have : c = 48 := by simpa using h
      omega
    · exact .inr (dg_rg _ c (by simpa using h))
end Go.Proofs.Ytfmkadgjoechnaa.Fw
set_option linter.unusedVariables false
set_option linter.unusedSimpArgs false
namespace Go.Proofs.Ytfmkadgjoechnaa.Fw
open Go Go.RowKit
def isSep (c : Int) : Prop := c = 44 ∨ c = 47
instance (c : Int) : Decidable (isSep c) := by unfold isSep; infer_instance
def spF (s : List (List Int) × List Int) (c : Int) : List (List Int) × List Int :=
  if isSep c then (s.1 ++ [[]], s.2 ++ [c]) else (s.1.set (s.1.length - 1) (s.1.getD (s.1.length - 1) [] ++ [c]), s.2)
def spl (L : List Int) : List (List Int) × List Int := L.foldl spF ([[]], [])
def spQ (n : Nat) (PS : List (List Int)) (MS : List Int) : Prop := PS.length = MS.length + 1 ∧ PS.length ≤ n + 1 ∧ (∀ s ∈ PS, okW 256 s ∧ s.length ≤ n) ∧ okW 256 MS ∧ MS.length ≤ n
theorem spQ0 : spQ 0 [[]] [] := ⟨by decide, by decide, fun s hs => by
  have : s = [] := by simpa using hs
  subst this; exact ⟨okC_nil, Nat.le_refl _⟩, okC_nil, Nat.le_refl _⟩
theorem spQ.get {n : Nat} {PS : List (List Int)} {MS : List Int} (h : spQ n PS MS) (i : Nat) : okW 256 (PS.getD i []) ∧ (PS.getD i []).length ≤ n := by
  rw [List.getD_eq_getElem?_getD]
  rcases hh : PS[i]? with _ | M
  · exact ⟨okC_nil, Nat.zero_le _⟩
  · exact h.2.2.1 M (List.mem_of_getElem? hh)
theorem one_slice {L : List Int} {i : Nat} (h : i < L.length) : (L.take (i + 1)).drop i = [L.getD i 0] := by
  rw [List.take_add_one, List.drop_append_of_le_length (by simp; omega), List.drop_of_length_le (by simp; omega)]
  simp [List.getD_eq_getElem?_getD, h]
theorem spl_succ {L : List Int} {i : Nat} (h : i < L.length) : spl (L.take (i + 1)) = spF (spl (L.take i)) (L.getD i 0) := by
  rw [List.take_add_one, List.getElem?_eq_getElem h]
  unfold spl
  rw [List.foldl_append]
  simp [List.getD_eq_getElem?_getD, h]
theorem sp_sep {L : List Int} {i : Nat} {PS : List (List Int)} {MS : List Int} (h : i < L.length) (hL : okW 256 L) (hs : spl (L.take i) = (PS, MS)) (hq : spQ i PS MS) (hc : isSep (L.getD i 0)) :
    spl (L.take (i + 1)) = (PS ++ [[]], MS ++ (L.take (i + 1)).drop i) ∧ spQ (i + 1) (PS ++ [[]]) (MS ++ (L.take (i + 1)).drop i) := by
  rw [spl_succ h, hs, one_slice h]
  have e : spF (PS, MS) (L.getD i 0) = (PS ++ [[]], MS ++ [L.getD i 0]) := by unfold spF; rw [if_pos hc]
  obtain ⟨h1, h2, h3, h4, h5⟩ := hq
  refine ⟨e, by simp; omega, by simp; omega, fun s hs => ?_, okC_app h4 (okC_one (okW.getD hL (by decide) _)), by simp; omega⟩
  rcases List.mem_append.1 hs with hs | hs
  · exact ⟨(h3 s hs).1, by have := (h3 s hs).2; omega⟩
  · have : s = [] := by simpa using hs
    subst this; exact ⟨okC_nil, Nat.zero_le _⟩
theorem sp_no {L : List Int} {i : Nat} {PS : List (List Int)} {MS : List Int} (h : i < L.length) (hL : okW 256 L) (hs : spl (L.take i) = (PS, MS)) (hq : spQ i PS MS) (hc : ¬ isSep (L.getD i 0)) :
    spl (L.take (i + 1)) = (PS.set (PS.length - 1) (PS.getD (PS.length - 1) [] ++ (L.take (i + 1)).drop i), MS) ∧ spQ (i + 1) (PS.set (PS.length - 1) (PS.getD (PS.length - 1) [] ++ (L.take (i + 1)).drop i)) MS := by
  have hg := hq.get (PS.length - 1)
  rw [spl_succ h, hs, one_slice h]
  have e : spF (PS, MS) (L.getD i 0) = (PS.set (PS.length - 1) (PS.getD (PS.length - 1) [] ++ [L.getD i 0]), MS) := by unfold spF; rw [if_neg hc]
  obtain ⟨h1, h2, h3, h4, h5⟩ := hq
  refine ⟨e, by simpa using h1, by simp; omega, fun s hs => ?_, h4, by omega⟩
  rcases List.mem_or_eq_of_mem_set hs with hs | hs
  · exact ⟨(h3 s hs).1, by have := (h3 s hs).2; omega⟩
  · subst hs
    refine ⟨okC_app hg.1 (okC_one (okW.getD hL (by decide) _)), ?_⟩
    have := hg.2
    rw [List.length_append]; simp at this ⊢; omega
theorem sp_run : ∀ (M : List Int) (PS : List (List Int)) (A MS : List Int), (∀ c ∈ M, ¬ isSep c) → M.foldl spF (PS ++ [A], MS) = (PS ++ [A ++ M], MS)
  | [], PS, A, MS, _ => by simp
  | c :: M, PS, A, MS, h => by
    have h1 := h c (List.mem_cons_self ..)
    have e : spF (PS ++ [A], MS) c = (PS ++ [A ++ [c]], MS) := by
      unfold spF; rw [if_neg h1]; simp
    rw [List.foldl_cons, e, sp_run M PS (A ++ [c]) MS fun x hx => h x (List.mem_cons_of_mem _ hx)]
    simp
theorem sp_mark (PS : List (List Int)) (MS : List Int) (c : Int) (h : isSep c) : [c].foldl spF (PS, MS) = (PS ++ [[]], MS ++ [c]) := by
  show spF (PS, MS) c = _
  unfold spF; rw [if_pos h]
theorem txt_nosep (z : Int) : ∀ c ∈ txtL z, ¬ isSep c := fun c hc h => by
  have := txt_bytes z c hc
  unfold isSep at h; omega
theorem spl2 (x y : Int) : spl ((txtL x ++ [44]) ++ txtL y) = ([txtL x, txtL y], [44]) := by
  unfold spl
  rw [List.foldl_append, List.foldl_append]
  have e1 := sp_run (txtL x) [] [] [] (txt_nosep x)
  rw [List.nil_append, List.nil_append, List.nil_append] at e1
  rw [e1, sp_mark _ _ _ (.inl rfl), sp_run (txtL y) [txtL x] [] _ (txt_nosep y)]
  simp
theorem spl3 (x y u : Int) : spl ((((txtL x ++ [44]) ++ txtL y) ++ [47]) ++ txtL u) = ([txtL x, txtL y, txtL u], [44, 47]) := by
  have e := spl2 x y
  unfold spl at e ⊢
  rw [List.foldl_append, List.foldl_append, e, sp_mark _ _ _ (.inr rfl), sp_run (txtL u) [txtL x, txtL y] [] _ (txt_nosep u)]
  simp
def rpX (L : List Int) : Int := rdZ ((spl L).1.getD 0 [])
def rpY (L : List Int) : Int := rdZ ((spl L).1.getD 1 [])
def rpU (L : List Int) : Int := if (spl L).2 = [44] then 1 else rdZ ((spl L).1.getD 2 [])
def rpS (L : List Int) : Prop := pOk (rpX L) (rpY L) (rpU L) ∧ pTxt (rpX L) (rpY L) (rpU L) = L
instance (L : List Int) : Decidable (rpS L) := by unfold rpS; infer_instance
theorem rpX_f (L : List Int) : fits (rpX L) := rdZ_f _
theorem rpY_f (L : List Int) : fits (rpY L) := rdZ_f _
theorem rpU_f (L : List Int) : fits (rpU L) := by
  unfold rpU; split
  · exact ⟨by decide, by decide⟩
  · exact rdZ_f _
theorem pOk_fits {x y u : Int} (h : pOk x y u) : fits x ∧ fits y ∧ fits u := by
  have h2 := sm3_iff.1 h.2.1
  exact ⟨fits80 h2.1, fits80 h2.2.1, fits80 h2.2.2⟩
theorem rp_of {L : List Int} {x y u : Int} (ho : pOk x y u) (h : pTxt x y u = L) : rpS L ∧ rpX L = x ∧ rpY L = y ∧ rpU L = u := by
  obtain ⟨hx, hy, hu⟩ := pOk_fits ho
  have hT : pTxt x y u = if u = 1 then (txtL x ++ [44]) ++ txtL y else (((txtL x ++ [44]) ++ txtL y) ++ [47]) ++ txtL u := by unfold pTxt; rw [if_pos ho]
  have e : rpX L = x ∧ rpY L = y ∧ rpU L = u := by
    by_cases h1 : u = 1
    · rw [if_pos h1, h] at hT
      have hs : spl L = ([txtL x, txtL y], [44]) := by rw [hT]; exact spl2 x y
      unfold rpX rpY rpU
      rw [hs, if_pos rfl]
      exact ⟨(rdS_txt hx).2, (rdS_txt hy).2, h1.symm⟩
    · rw [if_neg h1, h] at hT
      have hs : spl L = ([txtL x, txtL y, txtL u], [44, 47]) := by rw [hT]; exact spl3 x y u
      unfold rpX rpY rpU
      rw [hs, if_neg (by simp)]
      exact ⟨(rdS_txt hx).2, (rdS_txt hy).2, (rdS_txt hu).2⟩
  refine ⟨?_, e⟩
  unfold rpS
  rw [e.1, e.2.1, e.2.2]
  exact ⟨ho, h⟩
theorem pTxt_ne {L : List Int} {x y u : Int} (h : pTxt x y u = L) (hne : L ≠ []) : pOk x y u := by
  by_cases ho : pOk x y u
  · exact ho
  · unfold pTxt at h; rw [if_neg ho] at h; exact absurd h.symm hne
theorem txt_len26 {z : Int} (h : nbits z.natAbs ≤ 80) : (txtL z).length ≤ 26 ∧ (0 ≤ z → (txtL z).length ≤ 25) := by
  have h1 : z.natAbs < 10 ^ 25 := Nat.lt_trans (nbits_le_iff.1 h) (by decide)
  have h2 := dg_len.2 h1
  unfold txtL
  rw [List.length_append]
  refine ⟨?_, fun h0 => ?_⟩
  · split <;> split <;> simp <;> omega
  · rw [if_neg (by omega)]; split <;> simp <;> omega
theorem rp_spec {L : List Int} (h : rpS L) : L.length ≤ 80 ∧ rdS (txtL (rpX L)) ∧ rdS (txtL (rpY L)) ∧ rdS (txtL (rpU L)) ∧ ((spl L = ([txtL (rpX L), txtL (rpY L)], [44]) ∧ rpU L = 1) ∨ spl L = ([txtL (rpX L), txtL (rpY L), txtL (rpU L)], [44, 47])) := by
  obtain ⟨ho, hL⟩ := h
  generalize rpX L = x at *; generalize rpY L = y at *; generalize rpU L = u at *
  obtain ⟨hx, hy, hu⟩ := pOk_fits ho
  have h2 := sm3_iff.1 ho.2.1
  have l1 := (txt_len26 h2.1).1; have l2 := (txt_len26 h2.2.1).1; have l3 := (txt_len26 h2.2.2).2 (Int.le_of_lt ho.1)
  have hT : pTxt x y u = if u = 1 then (txtL x ++ [44]) ++ txtL y else (((txtL x ++ [44]) ++ txtL y) ++ [47]) ++ txtL u := by unfold pTxt; rw [if_pos ho]
  rw [hL] at hT
  refine ⟨?_, (rdS_txt hx).1, (rdS_txt hy).1, (rdS_txt hu).1, ?_⟩
  · rw [hT]; split <;> simp <;> omega
  · by_cases h1 : u = 1
    · rw [if_pos h1] at hT
      exact .inl ⟨by rw [hT]; exact spl2 x y, h1⟩
    · rw [if_neg h1] at hT
      exact .inr (by rw [hT]; exact spl3 x y u)
theorem rp_impl {L : List Int} (h : rpS L) : (L.take (fi 47 L)).take (fi 44 (L.take (fi 47 L))) = txtL (rpX L) ∧ (L.take (fi 47 L)).drop (fi 44 (L.take (fi 47 L)) + 1) = txtL (rpY L) ∧
    ((fi 47 L < L.length ∧ L.drop (fi 47 L + 1) = txtL (rpU L)) ∨ (¬ fi 47 L < L.length ∧ rpU L = 1)) := by
  obtain ⟨ho, hL⟩ := h
  generalize rpX L = x at *; generalize rpY L = y at *; generalize rpU L = u at *
  have hT : pTxt x y u = if u = 1 then (txtL x ++ [44]) ++ txtL y else (((txtL x ++ [44]) ++ txtL y) ++ [47]) ++ txtL u := by unfold pTxt; rw [if_pos ho]
  rw [hL] at hT
  have nx : ∀ c ∈ txtL x, c ≠ 44 := fun c hc he => txt_nosep x c hc (.inl he)
  have n47 : ∀ c ∈ (txtL x ++ [44]) ++ txtL y, c ≠ 47 := fun c hc he => by
    rcases List.mem_append.1 hc with hc | hc
    · rcases List.mem_append.1 hc with hc | hc
      · exact txt_nosep x c hc (.inr he)
      · have : c = 44 := by simpa using hc
        omega
    · exact txt_nosep y c hc (.inr he)
  have hd : ∀ Y : List Int, fi 44 ((txtL x ++ [44]) ++ Y) = (txtL x).length := fun Y => by
    rw [List.append_assoc]; exact fi_app nx
  have hh : ∀ M : List Int, M = (txtL x ++ [44]) ++ txtL y → M.take (fi 44 M) = txtL x ∧ M.drop (fi 44 M + 1) = txtL y := fun M hM => by
    rw [hM, hd]
    refine ⟨by simp, ?_⟩
    rw [show (txtL x).length + 1 = (txtL x ++ [44]).length by simp, List.drop_left]
  by_cases h1 : u = 1
  · rw [if_pos h1] at hT
    have hf : fi 47 L = L.length := by rw [hT]; exact fi_none n47
    have ht : L.take (fi 47 L) = (txtL x ++ [44]) ++ txtL y := by rw [hf, List.take_length]; exact hT
    exact ⟨(hh _ ht).1, (hh _ ht).2, .inr ⟨by omega, h1⟩⟩
  · rw [if_neg h1] at hT
    have hT2 : L = ((txtL x ++ [44]) ++ txtL y) ++ 47 :: txtL u := by rw [hT, List.append_assoc _ [47]]; rfl
    have hf : fi 47 L = ((txtL x ++ [44]) ++ txtL y).length := by rw [hT2]; exact fi_app n47
    have ht : L.take (fi 47 L) = (txtL x ++ [44]) ++ txtL y := by rw [hf, hT2, List.take_left]
    refine ⟨(hh _ ht).1, (hh _ ht).2, .inl ⟨?_, ?_⟩⟩
    · rw [hf, hT2]; simp
    · have e1 : ((txtL x ++ [44]) ++ txtL y).length + 1 = (((txtL x ++ [44]) ++ txtL y) ++ [47]).length := by simp; omega
      have e2 : ((txtL x ++ [44]) ++ txtL y) ++ 47 :: txtL u = (((txtL x ++ [44]) ++ txtL y) ++ [47]) ++ txtL u := by simp
      rw [hf, hT2, e1, e2, List.drop_left]
theorem ne_i {X L : List Int} (hX : rdS X) (hl : X.length ≤ L.length) : L ≠ [] := fun h => by
  subst h
  have : X = [] := List.eq_nil_of_length_eq_zero (by simpa using hl)
  subst this
  exact txtL_ne _ hX.1
theorem ne_s {L : List Int} {PS : List (List Int)} {MS : List Int} (hs : spl L = (PS, MS)) (hm : 0 < MS.length) : L ≠ [] := fun h => by
  subst h
  have : ([] : List Int) = MS := congrArg Prod.snd hs
  subst this
  simp at hm
theorem rp_i1 {L : List Int} {x y u : Int} (hne : L ≠ []) (h : pTxt x y u = L) : rpS L ∧ rpX L = x ∧ rpY L = y ∧ rpU L = u := rp_of (pTxt_ne h hne) h
theorem rp_i2 {L : List Int} (h : rpS L) : rdS ((L.take (fi 47 L)).take (fi 44 (L.take (fi 47 L)))) ∧ rdS ((L.take (fi 47 L)).drop (fi 44 (L.take (fi 47 L)) + 1)) ∧ (fi 47 L < L.length → rdS (L.drop (fi 47 L + 1))) ∧
    (fi 47 L < L.length → pTxt (rdZ ((L.take (fi 47 L)).take (fi 44 (L.take (fi 47 L))))) (rdZ ((L.take (fi 47 L)).drop (fi 44 (L.take (fi 47 L)) + 1))) (rdZ (L.drop (fi 47 L + 1))) = L) ∧
    (¬ fi 47 L < L.length → pTxt (rdZ ((L.take (fi 47 L)).take (fi 44 (L.take (fi 47 L))))) (rdZ ((L.take (fi 47 L)).drop (fi 44 (L.take (fi 47 L)) + 1))) 1 = L) := by
  obtain ⟨e1, e2, e3⟩ := rp_impl h
  obtain ⟨_, s1, s2, s3, _⟩ := rp_spec h
  rw [e1, e2, (rdS_txt (rpX_f L)).2, (rdS_txt (rpY_f L)).2]
  refine ⟨s1, s2, fun hl => ?_, fun hl => ?_, fun hl => ?_⟩
  · rcases e3 with e3 | e3
    · rw [e3.2]; exact s3
    · exact absurd hl e3.1
  · rcases e3 with e3 | e3
    · rw [e3.2, (rdS_txt (rpU_f L)).2]; exact h.2
    · exact absurd hl e3.1
  · rcases e3 with e3 | e3
    · exact absurd e3.1 hl
    · rw [← e3.2]; exact h.2
theorem txt1 : txtL 1 = [49] := by
  unfold txtL
  rw [show (1 : Int).natAbs = 1 from rfl, dg_pos (by decide), show 1 / 10 = 0 from rfl, dg_zero]; rfl
theorem rp_s2 {L : List Int} {PS : List (List Int)} {MS : List Int} (h : rpS L) (hs : spl L = (PS, MS)) (hm : MS = [44]) : rdS ((PS ++ [[49]]).getD 0 []) ∧ rdS ((PS ++ [[49]]).getD 1 []) ∧ rdS ((PS ++ [[49]]).getD 2 []) ∧ pTxt (rdZ ((PS ++ [[49]]).getD 0 [])) (rdZ ((PS ++ [[49]]).getD 1 [])) (rdZ ((PS ++ [[49]]).getD 2 [])) = L := by
  obtain ⟨_, s1, s2, s3, hq⟩ := rp_spec h
  subst hm
  rcases hq with ⟨hq, hu⟩ | hq
  · rw [hs] at hq
    have hP : PS = [txtL (rpX L), txtL (rpY L)] := congrArg Prod.fst hq
    have hU : [49] = txtL (rpU L) := by rw [hu]; exact txt1.symm
    subst hP
    rw [hU]
    refine ⟨s1, s2, s3, ?_⟩
    show pTxt (rdZ (txtL (rpX L))) (rdZ (txtL (rpY L))) (rdZ (txtL (rpU L))) = L
    rw [(rdS_txt (rpX_f L)).2, (rdS_txt (rpY_f L)).2, (rdS_txt (rpU_f L)).2]; exact h.2
  · rw [hs] at hq
    have : ([44] : List Int) = [44, 47] := congrArg Prod.snd hq
    simp at this
theorem rp_s4 {L : List Int} {PS PT : List (List Int)} {MS : List Int} (h : rpS L) (hs : spl L = (PS, MS)) (hm : MS = [44]) (hp : PS ++ [[49]] = PT) : rdS (PT.getD 0 []) ∧ rdS (PT.getD 1 []) ∧ rdS (PT.getD 2 []) ∧ pTxt (rdZ (PT.getD 0 [])) (rdZ (PT.getD 1 [])) (rdZ (PT.getD 2 [])) = L := by
  subst hp; exact rp_s2 h hs hm
theorem rp_s3 {L : List Int} {PS : List (List Int)} {MS : List Int} (h : rpS L) (hs : spl L = (PS, MS)) (hm : MS = [44, 47]) : rdS (PS.getD 0 []) ∧ rdS (PS.getD 1 []) ∧ rdS (PS.getD 2 []) ∧ pTxt (rdZ (PS.getD 0 [])) (rdZ (PS.getD 1 [])) (rdZ (PS.getD 2 [])) = L := by
  obtain ⟨_, s1, s2, s3, hq⟩ := rp_spec h
  subst hm
  rcases hq with ⟨hq, hu⟩ | hq
  · rw [hs] at hq
    have : ([44, 47] : List Int) = [44] := congrArg Prod.snd hq
    simp at this
  · rw [hs] at hq
    have hP : PS = [txtL (rpX L), txtL (rpY L), txtL (rpU L)] := congrArg Prod.fst hq
    subst hP
    refine ⟨s1, s2, s3, ?_⟩
    show pTxt (rdZ (txtL (rpX L))) (rdZ (txtL (rpY L))) (rdZ (txtL (rpU L))) = L
    rw [(rdS_txt (rpX_f L)).2, (rdS_txt (rpY_f L)).2, (rdS_txt (rpU_f L)).2]; exact h.2
theorem rp_s0 {L : List Int} {PS : List (List Int)} {MS : List Int} (hs : spl L = (PS, MS)) (h1 : ¬ MS = [44]) (h2 : MS ≠ [44, 47]) : ¬ rpS L := fun h => by
  obtain ⟨_, _, _, _, hq⟩ := rp_spec h
  rcases hq with ⟨hq, _⟩ | hq
  · rw [hs] at hq; exact h1 (congrArg Prod.snd hq)
  · rw [hs] at hq; exact h2 (congrArg Prod.snd hq)
theorem rows_get {n : Nat} {PS : List (List Int)} (h : ∀ s ∈ PS, okW 256 s ∧ s.length ≤ n) (i : Nat) : okW 256 (PS.getD i []) ∧ (PS.getD i []).length ≤ n := by
  rw [List.getD_eq_getElem?_getD]
  rcases hh : PS[i]? with _ | M
  · exact ⟨okC_nil, Nat.zero_le _⟩
  · exact h M (List.mem_of_getElem? hh)
theorem rows_w {n m : Nat} {PS : List (List Int)} (h : ∀ s ∈ PS, okW 256 s ∧ s.length ≤ n) (hn : n ≤ m) : ∀ s ∈ PS, okW 256 s ∧ s.length ≤ m := fun s hs => ⟨(h s hs).1, Nat.le_trans (h s hs).2 hn⟩
theorem rows_app {n : Nat} {PS : List (List Int)} {M : List Int} (h : ∀ s ∈ PS, okW 256 s ∧ s.length ≤ n) (hM : okW 256 M ∧ M.length ≤ n) : ∀ s ∈ PS ++ [M], okW 256 s ∧ s.length ≤ n := fun s hs => by
  rcases List.mem_append.1 hs with hs | hs
  · exact h s hs
  · have : s = M := by simpa using hs
    subst this; exact hM
end Go.Proofs.Ytfmkadgjoechnaa.Fw
set_option linter.unusedVariables false
set_option linter.unusedSimpArgs false
namespace Go.Proofs.Ytfmkadgjoechnaa.Fw
open Go Go.RowKit
def Rd (w : World) (A : Option Addr) (vs : List Value) : Prop :=
  vs = [] ∨ ∃ (g off T : Nat) (cs : Array Value) (fz : Nat × Nat), A = some ⟨g, off, none⟩ ∧ w.heap[g]? = some (.cells cs T fz) ∧ ∀ i x, vs[i]? = some x → cs[off + i]? = some x
theorem Rd.ext {w w' : World} {A : Option Addr} {vs : List Value} (h : Rd w A vs) (e : Ext w w') : Rd w' A vs := by
  rcases h with h | ⟨g, off, T, cs, fz, hA, hg, hc⟩
  · exact .inl h
  · exact .inr ⟨g, off, T, cs, fz, hA, e.blk hg, hc⟩
theorem Rd.at {w : World} {A : Option Addr} {vs : List Value} (h : Rd w A vs) (hp : 0 < vs.length) : ∃ g off, A = some ⟨g, off, none⟩ := by
  rcases h with h | ⟨g, off, T, cs, fz, hA, hg, hc⟩
  · rw [h] at hp; simp at hp
  · exact ⟨g, off, hA⟩
theorem Rd.cell {w : World} {g off i : Nat} {vs : List Value} {v : Value} (h : Rd w (some ⟨g, off, none⟩) vs) (hi : vs[i]? = some v) : w.cell? ⟨g, off + i, none⟩ = some v := by
  rcases h with h | ⟨g', off', T, cs, fz, hA, hg, hc⟩
  · rw [h] at hi; cases hi
  · obtain ⟨rfl, rfl⟩ : g = g' ∧ off = off' := by simpa using hA
    rw [cell_of_row w g (off + i) cs T fz hg]
    exact hc i v hi
def RdI (w : World) (k : IntKind) (A : Option Addr) (L : List Int) : Prop := Rd w A (L.map (Value.int k))
theorem RdI.ext {w w' : World} {k : IntKind} {A : Option Addr} {L : List Int} (h : RdI w k A L) (e : Ext w w') : RdI w' k A L := Rd.ext h e
theorem RdI.at {w : World} {k : IntKind} {A : Option Addr} {L : List Int} (h : RdI w k A L) (hp : 0 < L.length) : ∃ g off, A = some ⟨g, off, none⟩ := Rd.at h (by simpa using hp)
theorem RdI.cell {w : World} {k : IntKind} {g off i : Nat} {L : List Int} (h : RdI w k (some ⟨g, off, none⟩) L) (hi : i < L.length) : w.cell? ⟨g, off + i, none⟩ = some (.int k (L.getD i 0)) :=
  Rd.cell h (by simp [List.getElem?_map, hi, List.getD_eq_getElem?_getD])
end Go.Proofs.Ytfmkadgjoechnaa.Fw
set_option linter.unusedVariables false
set_option linter.unusedSimpArgs false
namespace Go.Proofs.Ytfmkadgjoechnaa.Fw
open Go Go.RowKit
theorem Ow.mono {w : World} {base base' T c : Nat} {k : IntKind} {A : Option Addr} {L : List Int} (h : Ow w base T k A c L) (hb : base' ≤ base) : Ow w base' T k A c L := by
  obtain ⟨⟨h1, h2⟩, h3⟩ := h
  refine ⟨⟨h1, ?_⟩, Nat.le_trans hb h3⟩
  rcases h2 with h2 | ⟨g, cap, cur, hv, hbg, r⟩
  · exact .inl h2
  · exact .inr ⟨g, cap, cur, hv, Nat.le_trans hb hbg, r⟩
theorem Wd.lt {w : World} {T : Nat} {k : IntKind} {A : Option Addr} {xs : List Int} (h : Wd w T k A xs) : ∀ g o, A = some ⟨g, o, none⟩ → g < w.heap.size := by
  intro g o hA
  rcases h with ⟨_, h⟩ | ⟨g', off, cs, fz, hA', hg, _⟩
  · rw [h] at hA; cases hA
  · rw [hA'] at hA
    injection hA with hA
    injection hA with h1 _ _
    rw [← h1]; exact lt_of_blk hg
theorem Wd.bl {w w' : World} {T base : Nat} {k : IntKind} {A : Option Addr} {xs : List Int} (h : Wd w T k A xs) (e : Below base w w') (hlt : ∀ g o, A = some ⟨g, o, none⟩ → g < base) : Wd w' T k A xs := by
  rcases h with h | ⟨g, off, cs, fz, hA, hg, hc⟩
  · exact .inl h
  · exact .inr ⟨g, off, cs, fz, hA, bl_blk e hg (hlt g off hA), hc⟩
theorem Ow.lt {w : World} {base T c : Nat} {k : IntKind} {A : Option Addr} {L : List Int} (h : Ow w base T k A c L) : ∀ g o, A = some ⟨g, o, none⟩ → g < w.heap.size := h.wd.lt
theorem Ow.bl {w w' : World} {base base' T c : Nat} {k : IntKind} {A : Option Addr} {L : List Int} (h : Ow w base T k A c L) (e : Below base' w w') (hlt : ∀ g o, A = some ⟨g, o, none⟩ → g < base') : Ow w' base T k A c L := by
  obtain ⟨⟨h1, h2⟩, h3⟩ := h
  refine ⟨⟨h1, ?_⟩, Nat.le_trans h3 e.size⟩
  rcases h2 with h2 | ⟨g, cap, cur, hv, hbg, hg, r⟩
  · exact .inl h2
  · injection hv with hA _ hc
    exact .inr ⟨g, cap, cur, by rw [hA, hc], hbg, bl_blk e hg (hlt g 0 hA), r⟩
theorem RdI.lt {w : World} {k : IntKind} {A : Option Addr} {L : List Int} (h : RdI w k A L) (hp : 0 < L.length) : ∀ g o, A = some ⟨g, o, none⟩ → g < w.heap.size := by
  intro g o hA
  rcases h with h | ⟨g', off, T, cs, fz, hA', hg, _⟩
  · have := congrArg List.length h; simp at this; subst this; simp at hp
  · rw [hA'] at hA
    injection hA with hA
    injection hA with h1 _ _
    rw [← h1]; exact lt_of_blk hg
end Go.Proofs.Ytfmkadgjoechnaa.Fw
set_option linter.unusedVariables false
set_option linter.unusedSimpArgs false
namespace Go.Proofs.Ytfmkadgjoechnaa.Fw
open Go Go.RowKit
def Ors (w : World) (base T : Nat) (A : Option Addr) (c : Nat) (L : List (List Int)) : Prop := w.ownsRow base T 1 (.slice A L.length c) L.length (L.map fun s => Value.string (bOf s)) ∧ base ≤ w.heap.size
theorem Ors.ext {w w' : World} {base T c : Nat} {A : Option Addr} {L : List (List Int)} (h : Ors w base T A c L) (e : Ext w w') : Ors w' base T A c L := ⟨own_keep h.1 fun g o hg _ _ => e.blk hg, Nat.le_trans h.2 e.size⟩
theorem Ors.st {w w' : World} {base T T' b c : Nat} {A : Option Addr} {L : List (List Int)} {cs' : Array Value} {fz' : Nat × Nat} (h : Ors w base T A c L) (e : St b w w') (hb : w.heap[b]? = some (.cells cs' T' fz')) (hT : T' ≠ T) : Ors w' base T A c L :=
  ⟨own_keep h.1 fun g o hg _ ⟨cs, fz, ho⟩ => e.blk hg (fun he => by
    subst he; subst ho
    rw [hg] at hb
    injection hb with hb
    injection hb with _ hb _
    exact hT hb.symm), by rw [e.size]; exact h.2⟩
theorem Ors.cap {w : World} {base T c : Nat} {A : Option Addr} {L : List (List Int)} (h : Ors w base T A c L) : L.length ≤ c := by
  rcases h.1.2 with ⟨hv, hn⟩ | ⟨g, cap, cur, hv, hb, hg, h1, h2, h3, h4⟩
  · omega
  · injection hv with _ _ hc
    omega
theorem Ors.at {w : World} {base T c : Nat} {A : Option Addr} {L : List (List Int)} (h : Ors w base T A c L) (hp : 0 < L.length) : ∃ g o, A = some ⟨g, o, none⟩ := by
  rcases h.1.2 with ⟨hv, hn⟩ | ⟨g, cap, cur, hv, hb, hg, h1, h2, h3, h4⟩
  · omega
  · injection hv with hA _ _
    exact ⟨_, _, hA⟩
theorem Ors.cell {w : World} {base T c g o : Nat} {L : List (List Int)} (h : Ors w base T (some ⟨g, o, none⟩) c L) {i : Nat} (hi : i < L.length) : w.cell? ⟨g, o + i, none⟩ = some (.string (bOf (L.getD i []))) := by
  rcases h.1.2 with ⟨hv, hn⟩ | ⟨g', cap, cur, hv, hb, hg, h1, h2, h3, h4⟩
  · omega
  · injection hv with hA _ hc
    injection hA with hA
    injection hA with h5 h6 _
    subst h5; subst h6
    rw [Nat.zero_add, cell_of_row w g i cur T _ hg]
    have h5 : (cur.toList.take (L.length * 1))[i]? = (L.map fun s => Value.string (bOf s))[i]? := by rw [h4]
    rw [List.getElem?_take_of_lt (by omega), List.getElem?_map, List.getElem?_eq_getElem hi] at h5
    simpa [List.getD_eq_getElem?_getD, List.getElem?_eq_getElem hi] using h5
theorem Ors.off {w : World} {base T c g o : Nat} {L : List (List Int)} (h : Ors w base T (some ⟨g, o, none⟩) c L) : o = 0 ∧ base ≤ g := by
  rcases h.1.2 with ⟨hv, hn⟩ | ⟨g', cap, cur, hv, hb, hg, h1, h2, h3, h4⟩
  · injection hv with hA _ _
    cases hA
  · injection hv with hA _ hc
    injection hA with hA
    injection hA with h5 h6 h7
    subst h5
    exact ⟨h6, hb⟩
theorem Ors.full {w' : World} {b T : Nat} {L : List (List Int)} {l : List Value} (h : w'.heap[b]? = some (.cells l.toArray T)) (hl : l = L.map fun s => Value.string (bOf s)) (hc : L.length ≤ 281474976710656) : Ors w' b T (some ⟨b, 0, none⟩) L.length L := by
  subst hl
  exact ⟨⟨by simp, .inr ⟨b, L.length, _, rfl, Nat.le_refl _, h, Nat.le_refl _, by simp only [maxLen]; omega, by simp, by simp [List.take_of_length_le]⟩⟩, Nat.le_of_lt (lt_of_blk h)⟩
theorem Ors.bl {w w' : World} {base base' T c : Nat} {A : Option Addr} {L : List (List Int)} (h : Ors w base T A c L) (e : Below base' w w') (hlt : ∀ g o, A = some ⟨g, o, none⟩ → g < base') : Ors w' base T A c L := by
  obtain ⟨⟨h1, h2⟩, h3⟩ := h
  refine ⟨⟨h1, ?_⟩, Nat.le_trans h3 e.size⟩
  rcases h2 with h2 | ⟨g, cap, cur, hv, hbg, hg, r⟩
  · exact .inl h2
  · injection hv with hA _ hc
    exact .inr ⟨g, cap, cur, by rw [hA, hc], hbg, bl_blk e hg (hlt g 0 hA), r⟩
theorem strs_oneCell (L : List (List Int)) : ∀ u ∈ L.map (fun s => Value.string (bOf s)), u.oneCell' = true := by
  intro u hu
  obtain ⟨s, _, rfl⟩ := List.mem_map.1 hu
  rfl
theorem bt_of_grownS {w w' : World} {base T c : Nat} {A : Option Addr} {L : List (List Int)} (hO : Ors w base T A c L) (h : w.grownBy w' (Value.ownBlock (.slice A L.length c))) : Bt T w w' := ⟨fun g o hg hne => by
  have hk := lt_of_blk hg
  refine (h.block g hk (fun he => ?_)).trans hg
  rcases hO.1.2 with ⟨hv, hn⟩ | ⟨g', cap, cur, hv, hb, hg', _⟩
  · injection hv with hA _ _
    rw [hA] at he
    simp [Value.ownBlock] at he
  · injection hv with hA _ _
    rw [hA] at he
    simp [Value.ownBlock] at he
    subst he
    rw [hg'] at hg
    exact hne _ _ (Option.some.inj hg).symm⟩
section
variable {P : Program} {n : Nat} {fr : Fr} {w : World} {ty : TypeId}
theorem oe_appendS {t e : TypeId} {x y : Operand} {A : Option Addr} {c base bytes g c2 T2 : Nat} {L : List (List Int)} {M : List Int} {K : Value → World → Prop} (ht : P.underlying t = some (.slice e))
    (hi : (P.info? e).map (fun i => (i.zero, i.size, i.bytes)) = some (some (.string ⟨#[]⟩), 1, bytes)) (hx : EV n fr x (.slice A L.length c)) (hy : EV n fr y (.slice (some ⟨g, 0, none⟩) 1 c2))
    (hO : Ors w base e A c L) (hg : w.heap[g]? = some (.cells #[.string (bOf M)] T2)) (hb : (L.length + 1) * bytes ≤ 140737488355328) (hl : L.length + 1 ≤ 140737488355328)
    (h : ∀ A' c' w', Ors w' base e A' c' (L ++ [M]) → Below base w w' → Bt e w w' → K (.slice A' (L ++ [M]).length c') w') : OE P n (.call { callee := .builtin .append, args := #[x, y], argTypes := #[t, t] }) ty fr w K := by
  cases hin : P.info? e with
  | none => simp [hin] at hi
  | some inf =>
    simp only [hin, Option.map_some, Option.some.injEq, Prod.mk.injEq] at hi
    obtain ⟨h1, h2, h3⟩ := hi
    obtain ⟨v', w', hr, hown, hgr, _⟩ := run_append_own (P := P) w base t ty e inf (.string ⟨#[]⟩) 1 bytes ht hin h1 h2 h3 rfl (by decide) (.slice A L.length c) L.length _ hO.1 ⟨g, 0, none⟩ 1 c2 ([M].map fun s => Value.string (bOf s)) (by simp)
      (fun j u hj => by
        have hjl : j = 0 := by have := (List.getElem?_eq_some_iff.1 hj).1; simp at this; exact this
        subst hjl
        have ha : (⟨g, 0, none⟩ : Addr).add 0 = ⟨g, 0 + 0, none⟩ := by unfold Addr.add; split <;> simp_all
        rw [ha, cell_of_row w g (0 + 0) _ T2 _ hg]
        simpa using hj) (strs_oneCell [M]) (by simp only [maxLen]; omega) hb hO.2
    obtain ⟨A', c', rfl⟩ := own_slice hown
    have hO' : Ors w' base e A' c' (L ++ [M]) := by
      unfold Ors
      rw [List.length_append, List.map_append]
      exact ⟨hown, Nat.le_trans hO.2 hgr.size⟩
    have hr' : (Builtin.append_ #[t, t] ty #[.slice A L.length c, .slice (some ⟨g, 0, none⟩) 1 c2]).run P w = .ok (.slice A' (L ++ [M]).length c') w' := by rw [List.length_append]; exact hr
    refine OE.of_run (fun _ _ _ _ => ?_) (h A' c' w' hO' (below_of_grown hgr hO.2 (own_row_ge hO.1)) (bt_of_grownS hO hgr))
    unfold EV at hx hy
    simp only [execOp, resolve, invoke, builtin, hx, hy, hr', List.map_toArray, List.map_cons, List.map_nil, Sem.run_bind, Sem.run_pure, Result.andThen_ok]
theorem oe_storeOs {t : TypeId} {x y : Operand} {base T c g o i : Nat} {L : List (List Int)} {M : List Int} {K : Value → World → Prop} (hs : sizeB P t = some 1) (hx : EV n fr x (.pointer (some ⟨g, o + i, none⟩))) (hy : EV n fr y (.string (bOf M)))
    (hO : Ors w base T (some ⟨g, o, none⟩) c L) (hi : i < L.length) (h : ∀ w', Ors w' base T (some ⟨g, o, none⟩) c (L.set i M) → Below base w w' → K undef w') : OE P n (.store t x y) ty fr w K := by
  obtain ⟨rfl, hbg⟩ := hO.off
  rw [Nat.zero_add] at hx
  rcases hO.1.2 with ⟨hv, hn⟩ | ⟨g', cap, cur, hv, hb, hg, h1, h2, h3, h4⟩
  · injection hv with hA _ _
    cases hA
  · injection hv with hA _ hc
    injection hA with hA
    injection hA with h5
    subst h5; subst hc
    have hlc : i < cur.toList.length := by simp; omega
    have hst : stC cur.toList i [.string (bOf M)] = some (cur.toList.set i (.string (bOf M))) := by
      have := stC_mid i cur.toList [.string (bOf M)] (by simp at hlc ⊢; omega)
      rw [this, List.set_eq_take_append_cons_drop, if_pos hlc]
      simp
    refine oe_store hx hy hs rfl rfl rfl (cs := cur.toList) (T := T) (by simpa using hg) hst fun w' hs' hb' => h w' ⟨⟨by simp, .inr ⟨g, c, _, rfl, hb, hb', by simpa using h1, h2, by simpa using h3, ?_⟩⟩, by rw [hs'.size]; exact hO.2⟩
      ⟨hs'.os, hs'.tape, hs'.output, Nat.le_of_eq hs'.size.symm, fun j hj => hs'.block j (by omega)⟩
    simp only [List.length_set, Nat.mul_one] at h4 ⊢
    rw [List.take_set, h4, List.map_set]
end
end Go.Proofs.Ytfmkadgjoechnaa.Fw
