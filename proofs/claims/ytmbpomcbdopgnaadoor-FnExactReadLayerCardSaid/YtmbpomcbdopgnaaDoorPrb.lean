/- Walks and plain mathematics, packed by a program of this session: declarations that the rows reach. -/
import Derived.Test.YtmbpomcbdopgnaaDoorPra
set_option linter.unusedVariables false
set_option linter.unusedSimpArgs false
namespace Go.Proofs.YtmbpomcbdopgnaaDoor.Fw
open Go
theorem decS_form {w : List Int} : decS w ↔ formD w ∧ (digD w).length ≤ 15 := by
  constructor
  · intro h
    have hc : canD w := h.2
    refine ⟨form_of_canD hc, ?_⟩
    have := (canD_len (k := 15) hc (by have h1 := h.1; unfold short at h1; have e : (10 : Nat) ^ 15 = 1000000000000000 := (by decide); omega)).1
    omega
  · rintro ⟨h1, h2⟩
    refine ⟨?_, canD_of_form h1⟩
    have h3 := valD_lt _ rfl h1.2.1
    have h4 := valD_nonneg _ rfl h1.2.1
    have h5 : (10 : Int) ^ (digD w).length ≤ 10 ^ 15 := by
      have : (10 : Nat) ^ (digD w).length ≤ 10 ^ 15 := Nat.pow_le_pow_right (by decide) h2
      exact_mod_cast this
    have e : (10 : Int) ^ 15 = 1000000000000000 := by decide
    unfold short numD sg
    split <;> omega
theorem valB_drop {xs : List Int} {i : Nat} (h : i < xs.length) : valB (2 ^ 32) (xs.drop i) = xs.getD i 0 + 4294967296 * valB (2 ^ 32) (xs.drop (i + 1)) := by
  have e : (2 : Int) ^ 32 = 4294967296 := by decide
  rw [List.drop_eq_getElem_cons h, ← e]
  simp [valB, List.getD_eq_getElem?_getD, h]
theorem valB_drop_le : ∀ {xs : List Int} (i : Nat), okW (2 ^ 32) xs → 0 ≤ valB (2 ^ 32) (xs.drop i) ∧ valB (2 ^ 32) (xs.drop i) ≤ valB (2 ^ 32) xs
  | [], i, h => by simp [valB]
  | x :: xs, 0, h => ⟨valB_nonneg (by decide) h, Int.le_refl _⟩
  | x :: xs, i + 1, h => by
    have ih := valB_drop_le (xs := xs) i (fun y hy => h y (List.mem_cons_of_mem _ hy))
    have hx := h x (by simp)
    have h0 : 0 ≤ valB (2 ^ 32) xs := valB_nonneg (by decide) (fun y hy => h y (List.mem_cons_of_mem _ hy))
    have e : (2 : Int) ^ 32 = 4294967296 := by decide
    show 0 ≤ valB (2 ^ 32) (xs.drop i) ∧ valB (2 ^ 32) (xs.drop i) ≤ x + 2 ^ 32 * valB (2 ^ 32) xs
    rw [e] at ih h0 ⊢
    omega
def stepT (S : List (List Int) × List Int) (b : Int) : List (List Int) × List Int := if b ≠ 32 then (S.1, S.2 ++ [b]) else (if S.2 = [] then S.1 else S.1 ++ [S.2], [])
def tokS (L : List Int) : List (List Int) × List Int := L.foldl stepT ([], [])
def toks (L : List Int) : List (List Int) := (stepT (tokS L) 32).1
theorem tokS_succ {L : List Int} {i : Nat} (h : i < L.length) : tokS (L.take (i + 1)) = stepT (tokS (L.take i)) (L.getD i 0) := by
  unfold tokS
  rw [List.take_succ_eq_append_getElem h, List.foldl_append]
  simp [List.getD_eq_getElem?_getD, h]
theorem tokS_all {L : List Int} {i : Nat} (h : L.length ≤ i) : tokS (L.take i) = tokS L := by rw [List.take_of_length_le h]
theorem tokS_ok : ∀ (L : List Int) (S : List (List Int) × List Int) (m : Nat), okW 256 L → (∀ x ∈ S.1, okW 256 x ∧ x.length ≤ m) → okW 256 S.2 → S.2.length + L.length ≤ m →
    (∀ x ∈ (L.foldl stepT S).1, okW 256 x ∧ x.length ≤ m) ∧ okW 256 (L.foldl stepT S).2 ∧ (L.foldl stepT S).2.length ≤ m ∧ (L.foldl stepT S).1.length ≤ S.1.length + L.length
  | [], S, m, _, h1, h2, h3 => ⟨h1, h2, by simpa using h3, Nat.le_refl _⟩
  | b :: L, S, m, h0, h1, h2, h3 => by
    have hb := h0 b (by simp)
    have h0' : okW 256 L := fun x hx => h0 x (List.mem_cons_of_mem _ hx)
    simp only [List.length_cons] at h3 ⊢
    show (∀ x ∈ (L.foldl stepT (stepT S b)).1, _) ∧ okW 256 (L.foldl stepT (stepT S b)).2 ∧ (L.foldl stepT (stepT S b)).2.length ≤ m ∧ (L.foldl stepT (stepT S b)).1.length ≤ _
    by_cases h32 : b ≠ 32
    · rw [show stepT S b = (S.1, S.2 ++ [b]) from if_pos h32]
      have := tokS_ok L (S.1, S.2 ++ [b]) m h0' h1 (okC_app h2 (okC_one hb)) (by simp; omega)
      refine ⟨this.1, this.2.1, this.2.2.1, ?_⟩
      have := this.2.2.2
      simp only at this
      omega
    · by_cases hd : S.2 = []
      · rw [show stepT S b = (S.1, []) by unfold stepT; rw [if_neg h32, if_pos hd]]
        have := tokS_ok L (S.1, []) m h0' h1 okC_nil (by simp; omega)
        refine ⟨this.1, this.2.1, this.2.2.1, ?_⟩
        have := this.2.2.2
        simp only at this
        omega
      · rw [show stepT S b = (S.1 ++ [S.2], []) by unfold stepT; rw [if_neg h32, if_neg hd]]
        have := tokS_ok L (S.1 ++ [S.2], []) m h0' (fun x hx => by
          rcases List.mem_append.1 hx with hx | hx
          · exact h1 x hx
          · rw [List.mem_singleton.1 hx]; exact ⟨h2, by omega⟩) okC_nil (by simp; omega)
        refine ⟨this.1, this.2.1, this.2.2.1, ?_⟩
        have := this.2.2.2
        simp only [List.length_append, List.length_cons, List.length_nil] at this
        omega
theorem toks_eq (L : List Int) : toks L = ((L ++ [32]).foldl stepT ([], [])).1 := by unfold toks tokS; rw [List.foldl_append]; rfl
theorem toks_ok {L : List Int} (hL : okW 256 L) : (∀ x ∈ toks L, okW 256 x) ∧ (∀ x ∈ toks L, x.length ≤ L.length + 1) ∧ (toks L).length ≤ L.length + 1 := by
  have h := tokS_ok (L ++ [32]) ([], []) (L.length + 1) (okC_app hL (okC_one ⟨by decide, by decide⟩)) (fun x hx => by cases hx) okC_nil (by simp)
  rw [← toks_eq] at h
  refine ⟨fun x hx => (h.1 x hx).1, fun x hx => (h.1 x hx).2, ?_⟩
  have := h.2.2.2
  simp only [List.length_append, List.length_cons, List.length_nil] at this
  omega
theorem tokT_no : ∀ (x : List Int) (S : List (List Int) × List Int), (32 : Int) ∉ x → x.foldl stepT S = (S.1, S.2 ++ x)
  | [], S, _ => by simp
  | b :: x, S, h => by
    have hb : b ≠ 32 := fun e => h (by rw [e]; simp)
    have ih := tokT_no x (S.1, S.2 ++ [b]) (fun hh => h (List.mem_cons_of_mem _ hh))
    show x.foldl stepT (stepT S b) = _
    rw [show stepT S b = (S.1, S.2 ++ [b]) from if_pos hb, ih]
    simp
def fl (ws : List (List Int)) : List Int := ws.flatMap fun x => x ++ [32]
theorem fl_app (a b : List (List Int)) : fl (a ++ b) = fl a ++ fl b := by simp [fl]
theorem tokT_fl : ∀ (ws : List (List Int)) (W : List (List Int)), (∀ x ∈ ws, x ≠ [] ∧ (32 : Int) ∉ x) → (fl ws).foldl stepT (W, []) = (W ++ ws, [])
  | [], W, _ => by simp [fl]
  | x :: ws, W, h => by
    have hx := h x (by simp)
    have ih := tokT_fl ws (W ++ [x]) (fun y hy => h y (List.mem_cons_of_mem _ hy))
    rw [show fl (x :: ws) = x ++ ([32] ++ fl ws) by simp [fl], List.foldl_append, tokT_no x _ hx.2, List.foldl_append]
    show (fl ws).foldl stepT (stepT (W, [] ++ x) 32) = _
    rw [show stepT (W, [] ++ x) 32 = (W ++ [x], []) by unfold stepT; rw [if_neg (by simp), List.nil_append, if_neg hx.1], ih]
    simp
theorem joinL_fl : ∀ (ws : List (List Int)), ws ≠ [] → joinL [32] ws ++ [32] = fl ws
  | [], h => absurd rfl h
  | [x], _ => by simp [joinL, fl]
  | x :: y :: r, _ => by
    have ih := joinL_fl (y :: r) (by simp)
    show x ++ [32] ++ joinL [32] (y :: r) ++ [32] = _
    rw [List.append_assoc, ih]
    simp [fl]
def tokL (N : Nat → Nat) (E : Nat → List Int) : Nat → List (List Int)
  | 0 => []
  | i + 1 => (if i = 0 then [] else tokL N E i ++ [[47]]) ++ wordL (E i) (N i)
theorem layT_fl {N : Nat → Nat} {E : Nat → List Int} : ∀ {i : Nat}, (∀ q, q < i + 1 → 0 < N q) → layT N E (i + 1) ++ [32] = fl (tokL N E (i + 1))
  | 0, h => by
    have h0 := h 0 (by omega)
    rw [layT_s]
    show [] ++ ringT (E 0) (N 0) ++ [32] = fl ([] ++ wordL (E 0) (N 0))
    rw [List.nil_append, List.nil_append]
    exact joinL_fl _ (fun hh => by have := congrArg List.length hh; rw [wordL_len] at this; simp at this; omega)
  | i + 1, h => by
    have h0 := h (i + 1) (by omega)
    have ih := layT_fl (E := E) (i := i) (fun q hq => h q (by omega))
    rw [layT_s, if_neg (by omega)]
    show layT N E (i + 1) ++ [32, 47, 32] ++ ringT (E (i + 1)) (N (i + 1)) ++ [32] = fl ((if i + 1 = 0 then [] else tokL N E (i + 1) ++ [[47]]) ++ wordL (E (i + 1)) (N (i + 1)))
    rw [if_neg (by omega), fl_app, fl_app, ← ih, List.append_assoc _ (ringT _ _), show ringT (E (i + 1)) (N (i + 1)) ++ [32] = fl (wordL (E (i + 1)) (N (i + 1))) from joinL_fl _ (fun hh => by have := congrArg List.length hh; rw [wordL_len] at this; simp at this; omega)]
    simp [fl]
theorem txt_ne (z : Int) : txtL z ≠ [] := by
  intro h
  have h1 := (form_of_canD (canD_txt z).1).1
  have h2 := (digD_len ([] : List Int)).1
  rw [h] at h1
  simp only [List.length_nil] at h2
  omega
theorem wordL_ne (E : List Int) : ∀ k, ∀ x ∈ wordL E k, x ≠ []
  | 0, x, hx => by cases hx
  | k + 1, x, hx => by
    simp only [wordL, List.mem_append, List.mem_singleton] at hx
    rcases hx with (hx | rfl) | rfl
    · exact wordL_ne E k x hx
    · exact txt_ne _
    · exact txt_ne _
theorem tokL_no (N : Nat → Nat) (E : Nat → List Int) : ∀ i, ∀ x ∈ tokL N E i, x ≠ [] ∧ (32 : Int) ∉ x
  | 0, x, hx => by cases hx
  | i + 1, x, hx => by
    simp only [tokL, List.mem_append] at hx
    rcases hx with hx | hx
    · split at hx
      · cases hx
      · simp only [List.mem_append, List.mem_singleton] at hx
        rcases hx with hx | rfl
        · exact tokL_no N E i x hx
        · exact ⟨by simp, by decide⟩
    · exact ⟨wordL_ne _ _ x hx, wordL_no _ (by omega) _ x hx⟩
theorem toks_lay {N : Nat → Nat} {E : Nat → List Int} {i : Nat} (h : ∀ q, q < i + 1 → 0 < N q) : toks (layT N E (i + 1)) = tokL N E (i + 1) := by
  rw [toks_eq, layT_fl h, tokT_fl _ _ (tokL_no N E (i + 1))]
  simp
theorem slice1 {L : List Int} {i : Nat} (h : i < L.length) : (L.take (i + 1)).drop i = [L.getD i 0] := by
  rw [List.take_succ_eq_append_getElem h, List.drop_append_of_le_length (by simp; omega), List.drop_of_length_le (by simp; omega)]
  simp [List.getD_eq_getElem?_getD, h]
def tkI (L : List Int) (i : Nat) (W : List (List Int)) (D : List Int) : Prop := (i ≤ L.length ∧ tokS (L.take i) = (W, D)) ∨ (i = L.length + 1 ∧ W = toks L ∧ D = [])
theorem tk0 (L : List Int) : tkI L 0 [] [] := .inl ⟨Nat.zero_le _, rfl⟩
theorem tk_word {L : List Int} {i : Nat} {W : List (List Int)} {D : List Int} (h : tkI L i W D) (hi : i < L.length) (hb : L.getD i 0 ≠ 32) : tkI L (i + 1) W (D ++ (L.take (i + 1)).drop i) := by
  rcases h with ⟨_, h⟩ | ⟨h, _⟩
  · refine .inl ⟨by omega, ?_⟩
    rw [tokS_succ hi, h, slice1 hi]
    exact if_pos hb
  · omega
theorem tk_sep {L : List Int} {i : Nat} {W : List (List Int)} {D : List Int} (h : tkI L i W D) (hi : i ≤ L.length) (hb : i < L.length → L.getD i 0 = 32) : (D ≠ [] → tkI L (i + 1) (W ++ [D]) []) ∧ (D = [] → tkI L (i + 1) W []) := by
  rcases h with ⟨_, h⟩ | ⟨h, _⟩
  · by_cases h1 : i < L.length
    · have e : tokS (L.take (i + 1)) = stepT (W, D) 32 := by rw [tokS_succ h1, h, hb h1]
      refine ⟨fun hd => .inl ⟨by omega, ?_⟩, fun hd => .inl ⟨by omega, ?_⟩⟩
      · rw [e]; unfold stepT; rw [if_neg (by simp), if_neg hd]
      · rw [e]; unfold stepT; rw [if_neg (by simp), if_pos hd]
    · have e : toks L = (stepT (W, D) 32).1 := by unfold toks; rw [← tokS_all (L := L) (i := i) (by omega), h]
      refine ⟨fun hd => .inr ⟨by omega, ?_, rfl⟩, fun hd => .inr ⟨by omega, ?_, rfl⟩⟩
      · rw [e]; unfold stepT; rw [if_neg (by simp), if_neg hd]
      · rw [e]; unfold stepT; rw [if_neg (by simp), if_pos hd]
  · omega
theorem tk_end {L : List Int} {i : Nat} {W : List (List Int)} {D : List Int} (h : tkI L i W D) (hi : ¬ i ≤ L.length) : W = toks L := by
  rcases h with ⟨h, _⟩ | ⟨_, h, _⟩
  · omega
  · exact h
def stpR (S : List (List (List Int)) × List (List Int)) (t : List Int) : List (List (List Int)) × List (List Int) := if t = [47] then (S.1 ++ [S.2], []) else (S.1, S.2 ++ [t])
def grpS (T : List (List Int)) : List (List (List Int)) × List (List Int) := T.foldl stpR ([], [])
def grps (L : List Int) : List (List (List Int)) := (grpS (toks L)).1 ++ [(grpS (toks L)).2]
def gpW (L : List Int) (i : Nat) : List (List Int) := (grps L).getD i []
def gpN (L : List Int) (i : Nat) : Nat := (gpW L i).length / 2
def gpE (L : List Int) (i : Nat) : List Int := (gpW L i).map numD
theorem grpS_succ {T : List (List Int)} {j : Nat} (h : j < T.length) : grpS (T.take (j + 1)) = stpR (grpS (T.take j)) (T.getD j []) := by
  unfold grpS
  rw [List.take_succ_eq_append_getElem h, List.foldl_append]
  simp [List.getD_eq_getElem?_getD, h]
theorem grp_pre : ∀ (T : List (List Int)) (S : List (List (List Int)) × List (List Int)), ∃ x R, (T.foldl stpR S).1 ++ [(T.foldl stpR S).2] = S.1 ++ ((S.2 ++ x) :: R)
  | [], S => ⟨[], [], by simp⟩
  | t :: T, S => by
    obtain ⟨x, R, h⟩ := grp_pre T (stpR S t)
    show ∃ x R, (T.foldl stpR (stpR S t)).1 ++ [(T.foldl stpR (stpR S t)).2] = _
    rw [h]
    unfold stpR
    by_cases ht : t = [47]
    · rw [if_pos ht]; exact ⟨[], x :: R, by simp⟩
    · rw [if_neg ht]; exact ⟨t :: x, R, by simp⟩
theorem grps_pre {L : List Int} {j : Nat} {F : List (List (List Int))} {c : List (List Int)} (h : grpS ((toks L).take j) = (F, c)) : ∃ x R, grps L = F ++ ((c ++ x) :: R) := by
  obtain ⟨x, R, h1⟩ := grp_pre ((toks L).drop j) (F, c)
  refine ⟨x, R, ?_⟩
  rw [← h1, ← h]
  unfold grps grpS
  rw [← List.foldl_append, List.take_append_drop]
theorem gpW_slash {L : List Int} {j : Nat} {F : List (List (List Int))} {c : List (List Int)} (h : grpS ((toks L).take j) = (F, c)) (hj : j < (toks L).length) (ht : (toks L).getD j [] = [47]) : F.length < (grps L).length ∧ gpW L F.length = c ∧ grpS ((toks L).take (j + 1)) = (F ++ [c], []) := by
  have h2 : grpS ((toks L).take (j + 1)) = (F ++ [c], []) := by rw [grpS_succ hj, h, ht]; rfl
  obtain ⟨x, R, h3⟩ := grps_pre h2
  refine ⟨by rw [h3]; simp, ?_, h2⟩
  unfold gpW
  rw [h3, List.getD_eq_getElem?_getD]
  simp
theorem gpW_end {L : List Int} {j : Nat} {F : List (List (List Int))} {c : List (List Int)} (h : grpS ((toks L).take j) = (F, c)) (hj : (toks L).length ≤ j) : (grps L).length = F.length + 1 ∧ gpW L F.length = c := by
  rw [List.take_of_length_le hj] at h
  unfold gpW grps
  rw [h]
  refine ⟨by simp, ?_⟩
  simp only
  rw [List.getD_eq_getElem?_getD]
  simp
theorem grp_word {L : List Int} {j : Nat} {F : List (List (List Int))} {c : List (List Int)} (h : grpS ((toks L).take j) = (F, c)) (hj : j < (toks L).length) (ht : (toks L).getD j [] ≠ [47]) : grpS ((toks L).take (j + 1)) = (F, c ++ [(toks L).getD j []]) := by
  rw [grpS_succ hj, h]; unfold stpR; rw [if_neg ht]
theorem grpG_no : ∀ (ws : List (List Int)) (S : List (List (List Int)) × List (List Int)), (∀ x ∈ ws, x ≠ [47]) → ws.foldl stpR S = (S.1, S.2 ++ ws)
  | [], S, _ => by simp
  | x :: ws, S, h => by
    have ih := grpG_no ws (S.1, S.2 ++ [x]) (fun y hy => h y (List.mem_cons_of_mem _ hy))
    show ws.foldl stpR (stpR S x) = _
    rw [show stpR S x = (S.1, S.2 ++ [x]) from if_neg (h x (by simp)), ih]
    simp
theorem wordL_47 (E : List Int) (k : Nat) : ∀ x ∈ wordL E k, x ≠ [47] := fun x hx he => wordL_no E (c := 47) (by omega) k x hx (by rw [he]; simp)
theorem grpS_lay (N : Nat → Nat) (E : Nat → List Int) : ∀ i, grpS (tokL N E (i + 1)) = ((List.range i).map fun q => wordL (E q) (N q), wordL (E i) (N i))
  | 0 => by
    unfold grpS tokL
    rw [if_pos rfl, List.nil_append, grpG_no _ _ (wordL_47 _ _)]
    simp
  | i + 1 => by
    have ih := grpS_lay N E i
    unfold grpS at ih ⊢
    rw [show tokL N E (i + 1 + 1) = tokL N E (i + 1) ++ [[47]] ++ wordL (E (i + 1)) (N (i + 1)) by
      show (if i + 1 = 0 then [] else tokL N E (i + 1) ++ [[47]]) ++ wordL (E (i + 1)) (N (i + 1)) = _
      rw [if_neg (by omega)], List.foldl_append, List.foldl_append, ih]
    show (wordL (E (i + 1)) (N (i + 1))).foldl stpR (stpR _ [47]) = _
    rw [grpG_no _ _ (wordL_47 _ _), show ∀ S, stpR S [47] = (S.1 ++ [S.2], []) from fun S => if_pos rfl, List.range_succ]
    simp
theorem grps_lay {N : Nat → Nat} {E : Nat → List Int} {l : Nat} (hl : l ≠ 0) (h : ∀ q, q < l → 0 < N q) : grps (layT N E l) = (List.range l).map fun q => wordL (E q) (N q) := by
  obtain ⟨i, rfl⟩ : ∃ i, l = i + 1 := ⟨l - 1, by omega⟩
  unfold grps
  rw [toks_lay h, grpS_lay, List.range_succ]
  simp
theorem rd_nn : ¬ rdOK [] := by
  rintro ⟨_, _, h, _⟩
  have hs : ∀ sep : List Int, sep ≠ [] → splB sep [] = [[]] := fun sep hs => by
    unfold splB
    rw [show u8 ([] : List Int) = [] from rfl, Lib.count_miss (by cases sep with | nil => exact absurd rfl hs | cons a t => rfl)]
    rfl
  have hp : pcs [] = [[]] := hs _ (by simp)
  have hw : wds [] 0 = [[]] := by unfold wds; rw [hp]; exact hs _ (by simp)
  have := (h 0 (by rw [hp]; simp)).1
  rw [hw] at this
  simp at this
theorem tokL_dec {N : Nat → Nat} {E : Nat → List Int} : ∀ {i : Nat}, (∀ q, q < i → ringS (E q) (N q)) → ∀ x ∈ tokL N E i, x = [47] ∨ decS x
  | 0, _, x, hx => by cases hx
  | i + 1, h, x, hx => by
    simp only [tokL, List.mem_append] at hx
    rcases hx with hx | hx
    · split at hx
      · cases hx
      · simp only [List.mem_append, List.mem_singleton] at hx
        rcases hx with hx | rfl
        · exact tokL_dec (fun q hq => h q (by omega)) x hx
        · exact .inl rfl
    · exact .inr (wordL_dec (h i (by omega)) x hx)
theorem rd_grps {L : List Int} (h : rdOK L) : (grps L).length = (pcs L).length ∧ (∀ i, i < (pcs L).length → gpW L i = wordL (pcE L i) (pcN L i) ∧ gpN L i = pcN L i ∧ gpE L i = pcE L i) ∧ ∀ x ∈ toks L, x = [47] ∨ decS x := by
  obtain ⟨h0, hS, hL⟩ := layR_nn h.2.2.2 h.2.1 (fun he => rd_nn (he ▸ h))
  have hg := grps_lay (E := pcE L) h0 (fun q hq => (hS.2.2 q hq).1)
  rw [← hL] at hg
  refine ⟨by rw [hg]; simp, fun i hi => ?_, ?_⟩
  · have hw : gpW L i = wordL (pcE L i) (pcN L i) := by
      unfold gpW
      rw [hg, List.getD_eq_getElem?_getD]
      simp [hi]
    have he := pcE_len (h.2.2.1 i hi).1
    refine ⟨hw, by unfold gpN; rw [hw, wordL_len]; omega, ?_⟩
    unfold gpE
    rw [hw, map_txt _ (by omega), ← he, List.take_length]
  · obtain ⟨i, hi⟩ : ∃ i, (pcs L).length = i + 1 := ⟨(pcs L).length - 1, by omega⟩
    have ht : toks L = tokL (pcN L) (pcE L) (pcs L).length := by
      rw [hi] at hL hS ⊢
      conv => lhs; rw [hL]
      exact toks_lay (fun q hq => (hS.2.2 q hq).1)
    rw [ht]
    exact tokL_dec (fun q hq => (hS.2.2 q hq).2)
theorem no_odd {L : List Int} {i : Nat} (hi : i < (grps L).length) (ho : (gpW L i).length % 2 = 1) : ¬ rdOK L := fun h => by
  obtain ⟨h1, h2, _⟩ := rd_grps h
  rw [(h2 i (by omega)).1, wordL_len] at ho
  omega
theorem no_dec {L : List Int} {j : Nat} (hj : j < (toks L).length) (h1 : (toks L).getD j [] ≠ [47]) (h2 : ¬ decS ((toks L).getD j [])) : ¬ rdOK L := fun h => by
  have := (rd_grps h).2.2 ((toks L).getD j []) (by rw [List.getD_eq_getElem?_getD, List.getElem?_eq_getElem hj]; exact List.getElem_mem hj)
  rcases this with h3 | h3
  · exact h1 h3
  · exact h2 h3
theorem layR_congr {l : Nat} {N N' : Nat → Nat} {E E' : Nat → List Int} (h : ∀ i, i < l → N i = N' i ∧ E i = E' i) : layR l N E = layR l N' E' := by
  have ht : ∀ i, i ≤ l → tot N i = tot N' i := by
    intro i
    induction i with
    | zero => intro _; rfl
    | succ i ih => intro hi; show tot N i + N i = tot N' i + N' i; rw [ih (by omega), (h i (by omega)).1]
  have hr : ∀ i, i ≤ l → ringsL N E i = ringsL N' E' i := by
    intro i
    induction i with
    | zero => intro _; rfl
    | succ i ih => intro hi; show ringsL N E i ++ [ringT (E i) (N i)] = ringsL N' E' i ++ [ringT (E' i) (N' i)]; rw [ih (by omega), (h i (by omega)).1, (h i (by omega)).2]
  have hS : layS l N E ↔ layS l N' E' := by
    unfold layS
    rw [ht l (Nat.le_refl _)]
    constructor
    · exact fun ⟨a, b, c⟩ => ⟨a, b, fun i hi => by rw [← (h i hi).1, ← (h i hi).2]; exact c i hi⟩
    · exact fun ⟨a, b, c⟩ => ⟨a, b, fun i hi => by rw [(h i hi).1, (h i hi).2]; exact c i hi⟩
  unfold layR layT
  rw [hr l (Nat.le_refl _)]
  simp only [hS]
theorem no_lay {L : List Int} (h : layR (grps L).length (gpN L) (gpE L) ≠ L) : ¬ rdOK L := fun hr => by
  obtain ⟨h1, h2, _⟩ := rd_grps hr
  apply h
  rw [h1, layR_congr (fun i hi => (h2 i hi).2)]
  exact hr.2.2.2
theorem rd_spec2 {L : List Int} (hlen : L.length ≤ 2000) (h1 : L ≠ noneL) (h2 : L ≠ []) (hE : ∀ i, i < (grps L).length → (gpW L i).length % 2 = 0) (h : layR (grps L).length (gpN L) (gpE L) = L) : rdOK L ∧ (pcs L).length = (grps L).length ∧ ∀ i, i < (grps L).length → pcN L i = gpN L i ∧ pcE L i = gpE L i :=
  rd_same hlen h1 h2 (fun i hi => by unfold gpE gpN; rw [List.length_map]; have := hE i hi; omega) h
theorem grpS_len : ∀ (T : List (List Int)) (S : List (List (List Int)) × List (List Int)), (T.foldl stpR S).1.length ≤ S.1.length + T.length ∧ (T.foldl stpR S).2.length ≤ S.2.length + T.length
  | [], S => ⟨Nat.le_refl _, Nat.le_refl _⟩
  | t :: T, S => by
    have ih := grpS_len T (stpR S t)
    show (T.foldl stpR (stpR S t)).1.length ≤ _ ∧ (T.foldl stpR (stpR S t)).2.length ≤ _
    unfold stpR at ih ⊢
    simp only [List.length_cons]
    split at ih <;> simp only [List.length_append, List.length_cons, List.length_nil] at ih <;> simp_all <;> omega
theorem gpN_le {L : List Int} (hL : okW 256 L) (hl : L.length ≤ 2000) (i : Nat) : gpN L i ≤ 1048576 := by
  have h1 := (toks_ok hL).2.2
  have hall : ∀ g ∈ grps L, g.length ≤ 2001 := by
    have key : ∀ (T : List (List Int)) (S : List (List (List Int)) × List (List Int)), (∀ g ∈ S.1, g.length ≤ 2001) → S.2.length + T.length ≤ 2001 → ∀ g ∈ (T.foldl stpR S).1 ++ [(T.foldl stpR S).2], g.length ≤ 2001 := by
      intro T
      induction T with
      | nil => intro S h1 h2 g hg; rcases List.mem_append.1 hg with hg | hg
               · exact h1 g hg
               · rw [List.mem_singleton.1 hg]; simpa using h2
      | cons t T ih =>
        intro S h1 h2
        simp only [List.length_cons] at h2
        refine ih (stpR S t) ?_ ?_
        · unfold stpR
          split
          · intro g hg
            rcases List.mem_append.1 hg with hg | hg
            · exact h1 g hg
            · rw [List.mem_singleton.1 hg]; omega
          · exact h1
        · unfold stpR
          split
          · simp; omega
          · simp; omega
    exact key (toks L) ([], []) (fun g hg => by cases hg) (by simp; omega)
  unfold gpN gpW
  rw [List.getD_eq_getElem?_getD]
  cases hi : (grps L)[i]? with
  | none => simp
  | some g => have := hall g (List.mem_of_getElem? hi); simp; omega
end Go.Proofs.YtmbpomcbdopgnaaDoor.Fw
set_option linter.unusedVariables false
set_option linter.unusedSimpArgs false
namespace Go.Proofs.YtmbpomcbdopgnaaDoor.Fw
open Go Go.RowKit
theorem OwV.at {w : World} {base T n c : Nat} {A : Option Addr} {vs : List Value} (h : OwV w base T A n c vs) (hp : 0 < n) : ∃ g o, A = some ⟨g, o, none⟩ := by
  rcases h.row with h0 | ⟨g, cs, hA, _⟩
  · omega
  · exact ⟨g, 0, hA⟩
theorem vals_set {V : List Value} {m : Nat} {f : Nat → Value} {v : Value} (h : ∀ q, q < m → V[q]? = some (f q)) : ∀ q, q < m → (V.set m v)[q]? = some (f q) := fun q hq => by
  rw [List.getElem?_set_ne (by omega)]; exact h q hq
theorem vals_setl {V : List Value} {m : Nat} {v v' : Value} (h : V[m]? = some v') : (V.set m v)[m]? = some v := List.getElem?_set_self (List.getElem?_eq_some_iff.1 h).1
theorem vals_all {V : List Value} {m : Nat} {f g : Nat → Value} {v7 : Value} (h : ∀ q, q < m → V[q]? = some (f q)) (h7 : V[m]? = some v7) (hf : ∀ q, q < m → g q = f q) (hg : g m = v7) : ∀ q, q < m + 1 → V[q]? = some (g q) := fun q hq => by
  rcases Nat.lt_or_ge q m with h1 | h1
  · rw [h q h1, hf q h1]
  · obtain rfl : q = m := by omega
    rw [h7, hg]
theorem vals_app {V : List Value} {m : Nat} {f g : Nat → Value} {v7 v : Value} (h : ∀ q, q < m → V[q]? = some (f q)) (h7 : V[m]? = some v7) (hf : ∀ q, q < m → g q = f q) (hg : g m = v7) : ∀ q, q < m + 1 → (V ++ [v])[q]? = some (g q) := fun q hq => by
  have hl := (List.getElem?_eq_some_iff.1 h7).1
  rw [List.getElem?_append_left (by omega)]
  exact vals_all h h7 hf hg q hq
theorem vals_last {V : List Value} {m : Nat} {v : Value} (h : V.length = m) : (V ++ [v])[m]? = some v := by subst h; simp
theorem cur_pair {c : List (List Int)} {t : List Int} {k : Nat} {M : List Int} {x n : Int} (hM : M = (c.take (k * 2)).map numD) (hk : c.length = k * 2 + 1) (hx : x = numD (c.getD (k * 2) [])) (hn : n = numD t) : M ++ [x, n] = ((c ++ [t]).take ((k + 1) * 2)).map numD := by
  refine take_map (by rw [List.take_append_of_le_length (by omega)]; exact hM) (by simp; omega) ?_ ?_
  · rw [hx, List.getD_eq_getElem?_getD, List.getD_eq_getElem?_getD, List.getElem?_append_left (by omega)]
  · rw [hn, List.getD_eq_getElem?_getD, List.getElem?_append_right (by omega), hk]; simp
theorem cur_one {c : List (List Int)} {t : List Int} {k : Nat} {M : List Int} (hM : M = (c.take (k * 2)).map numD) (hk : c.length = k * 2) : M = ((c ++ [t]).take (k * 2)).map numD ∧ (c ++ [t]).getD (k * 2) [] = t := by
  refine ⟨by rw [List.take_append_of_le_length (by omega)]; exact hM, ?_⟩
  rw [List.getD_eq_getElem?_getD, List.getElem?_append_right (by omega), hk]; simp
theorem cur_all {c : List (List Int)} {k : Nat} {M : List Int} (hM : M = (c.take (k * 2)).map numD) (hk : c.length = k * 2) : M = c.map numD := by rw [hM, List.take_of_length_le (by omega)]
theorem ev_snoc {L : List Int} {m : Nat} (h : ∀ q, q < m → (gpW L q).length % 2 = 0) (h1 : (gpW L m).length % 2 = 0) : ∀ q, q < m + 1 → (gpW L q).length % 2 = 0 := fun q hq => by
  rcases Nat.lt_or_ge q m with h2 | h2
  · exact h q h2
  · obtain rfl : q = m := by omega
    exact h1
end Go.Proofs.YtmbpomcbdopgnaaDoor.Fw
set_option linter.unusedVariables false
set_option linter.unusedSimpArgs false
namespace Go.Proofs.YtmbpomcbdopgnaaDoor.Fw
open Go Go.RowKit
def kR (k : Int) (N : Nat → Nat) (i : Nat) : Int := k + 2 * (tot N i : Int)
theorem kR_s (k : Int) (N : Nat → Nat) (i : Nat) : kR k N (i + 1) = kR k N i + (N i : Int) * 2 := by
  unfold kR
  rw [show tot N (i + 1) = tot N i + N i from rfl]
  omega
theorem kR_0 (k : Int) (N : Nat → Nat) : kR k N 0 = k := by unfold kR; simp [tot]
theorem kR_rg {k : Int} {N : Nat → Nat} {l : Nat} (h : ∀ i, i < l → N i ≤ 1048576) {i : Nat} (hi : i ≤ l) : k ≤ kR k N i ∧ kR k N i ≤ k + 2 * ((i : Int) * 1048576) := by
  have := tot_bd h hi
  unfold kR
  omega
def mkR (k : Int) (N : Nat → Nat) (i : Nat) : List Int := mkL (kR k N i) (N i * 2)
theorem mkL_step2 {M : List Int} {k : Int} {n i : Nat} (h : M.take (i * 2) = (mkL k n).take (i * 2)) (hl : M.length = n) (hi : i * 2 + 1 < n) {z1 z2 : Int} (h1 : z1 = k + (i : Int) * 2) (h2 : z2 = k + (i : Int) * 2 + 1) : ((M.set (i * 2) z1).set (i * 2 + 1) z2).take ((i + 1) * 2) = (mkL k n).take ((i + 1) * 2) := by
  have e1 : k + ((i * 2 : Nat) : Int) = z1 := by omega
  have e2 : k + ((i * 2 + 1 : Nat) : Int) = z2 := by omega
  have a := mkL_step h hl (by omega)
  have b := mkL_step a (by simpa using hl) hi
  rw [e1, e2] at b
  rw [show (i + 1) * 2 = i * 2 + 1 + 1 by omega]
  exact b
theorem OwS.at {w : World} {base T s n c : Nat} {k : IntKind} {A : Option Addr} {L : List Int} (h : OwS w base T s k A n c L) (hp : 0 < n) : ∃ g o, A = some ⟨g, o, none⟩ := by
  rcases h.1.2 with ⟨hv, hn⟩ | ⟨g, cap, cur, hv, _⟩
  · omega
  · injection hv with hA _ _
    exact ⟨g, 0, hA⟩
theorem Sb.below {A : Option Addr} {w w' : World} {lo : Nat} (h : Sb A w w') (hA : ∀ b o, A = some ⟨b, o, none⟩ → lo ≤ b) : Below lo w w' :=
  ⟨h.os, h.tape, h.output, Nat.le_of_eq h.size.symm, fun k hk => h.block k fun o he => by have := hA k o he; omega⟩
theorem Sb.bt {w w' : World} {base T s n c : Nat} {k : IntKind} {A : Option Addr} {L : List Int} (h : Sb A w w') (hO : OwS w base T s k A n c L) : Bt T w w' := ⟨fun b ob hb hne => by
  refine (h.block b fun o he => ?_).trans hb
  rcases hO.1.2 with ⟨hv, _⟩ | ⟨g, cap, cur, hv, _, hg, _⟩
  · injection hv with hA _ _
    rw [hA] at he; cases he
  · injection hv with hA _ _
    rw [hA] at he
    injection he with he
    injection he with he _ _
    subst he
    rw [hb] at hg
    exact hne _ _ (Option.some.inj hg)⟩
theorem RIn.marked {w w' : World} {lo hi T' m i : Nat} {N : Nat → Nat} {E : Nat → List Int} {SL : SlF} {L : List Int} (h : RIn w lo hi T' m N E SL) (hi' : i < m) (hS : Sb (SL i).1 w w') (hO : OwS w' lo T' 2 .i64 (SL i).1 (N i) (SL i).2 L) : RIn w' lo hi T' m N (updA E i L) SL := by
  refine ⟨⟨h.lh.1, by rw [hS.size]; exact h.lh.2⟩, fun q hq => ?_⟩
  by_cases hqi : q = i
  · subst hqi
    rw [updA_same]
    exact ⟨hO, (h.inner q hq).2⟩
  · rw [updA_ne _ _ hqi]
    refine ⟨(h.inner q hq).1.keep (Nat.le_of_eq hS.size.symm) fun g o ob hA hg => (hS.block g fun o2 he => ?_).trans hg, (h.inner q hq).2⟩
    exact ((h.inner q hq).2 g o hA).2 i hi' (Ne.symm hqi) g o2 he rfl
section
variable {P : Program} {n : Nat} {fr : Fr} {w : World} {ty : TypeId}
theorem oe_storeOwT {t : TypeId} {x y : Operand} {base T s m c g o i : Nat} {k : IntKind} {L : List Int} {z : Int} {K : Value → World → Prop} (hs : sizeB P t = some 1) (hx : EV n fr x (.pointer (some ⟨g, o + i, none⟩))) (hy : EV n fr y (.int k z))
    (hO : OwS w base T s k (some ⟨g, o, none⟩) m c L) (hi : i < m * s) (h : ∀ w', OwS w' base T s k (some ⟨g, o, none⟩) m c (L.set i z) → Below base w w' → St g w w' → K undef w') : OE P n (.store t x y) ty fr w K := by
  have hlen := hO.len
  rcases hO.1.2 with ⟨hv, hn⟩ | ⟨g', cap, cur, hv, hb, hg, h1, h2, h3, h4⟩
  · injection hv with hA _ _
    cases hA
  · injection hv with hA _ hc
    injection hA with hA
    injection hA with h5 h6 _
    subst h5; subst h6; subst hc
    rw [Nat.zero_add] at hx
    have hms := Nat.mul_le_mul_right s (show m ≤ c by omega)
    have hlc : i < cur.toList.length := by simp; omega
    have hst : stC cur.toList i [.int k z] = some (cur.toList.set i (.int k z)) := by
      have := stC_mid i cur.toList [.int k z] (by simp at hlc ⊢; omega)
      rw [this, List.set_eq_take_append_cons_drop, if_pos hlc]
      simp
    refine oe_store hx hy hs rfl rfl rfl (cs := cur.toList) (T := T) (by simpa using hg) hst fun w' hs' hb' => h w' ⟨⟨by simpa using hlen, .inr ⟨g, c, _, rfl, hb, hb', by simpa using h1, h2, by simpa using h3, ?_⟩⟩, by rw [hs'.size]; exact hO.2⟩
      ⟨hs'.os, hs'.tape, hs'.output, Nat.le_of_eq hs'.size.symm, fun j hj => hs'.block j (by omega)⟩ hs'
    simp only [List.map_set] at h4 ⊢
    rw [List.take_set, h4]
end
theorem rdN_le {L : List Int} : rdN L ≤ 2001 ∧ ∀ i, i < rdN L → pcN L i ≤ 1048576 := by
  by_cases h : rdOK L
  · rw [rdN_t h]
    have h1 := splB_len (sep := [32, 47, 32]) (s := L) (by simp)
    have h2 := h.1
    exact ⟨by show (splB [32, 47, 32] L).length ≤ 2001; omega, fun i _ => pcN_le h2 i⟩
  · rw [rdN_f h]
    exact ⟨by omega, fun i hi => absurd hi (Nat.not_lt_zero _)⟩
end Go.Proofs.YtmbpomcbdopgnaaDoor.Fw
