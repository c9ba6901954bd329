/- Wk14: walks, written by a program of this session. -/
import Derived.Test.YtpnjkjahfklfnaaWk13
set_option linter.unusedVariables false
set_option linter.unusedSimpArgs false
namespace Go.Proofs.Ytpnjkjahfklfnaa.W
open Go Go.RowKit Go.Proofs.Ytpnjkjahfklfnaa.Fw
attribute [local irreducible] RunK LW AW DV OE Ct

set_option maxHeartbeats 1000000 in
theorem shifted_ok {w : World} {A : Option Addr} {c S : Nat} {xs : List Int} (hx : Wd w 22 .u64 A xs) (hS : S ≤ 63) (ox : okW (2 ^ 64) xs) (lx : xs.length ≤ 500000) : Ct Try.prog 124 [.slice A (xs.length) c, .int .i64 ((S : Int))] w fun v w1 => ∃ b L, v = .slice (some ⟨b, 0, none⟩) (xs.length + 1) (xs.length + 1) ∧ Ext w w1 ∧ w1.heap[b]? = some (.cells (L.map (Value.int .u64)).toArray 22) ∧ w.heap.size ≤ b ∧ L.length = xs.length + 1 ∧ okW (2 ^ 64) L ∧ valB (2 ^ 64) L = 2 ^ S * valB (2 ^ 64) xs := by
  refine ct_run (n := 40) Try.func124 rfl Try.ntmps124 rfl ?_
  have E0 : Below w.heap.size w w := Below.refl _ _
  refine rk_seq ?_
  refine rk_reg ?_
  refine lw_v (.slice none 0 0) (dv_assign C) ?_
  refine lw_nil ?_
  refine rk_seq ?_
  refine rk_reg ?_
  refine lw_v (.slice A (xs.length) c) (dv_move (T rfl rfl)) ?_
  refine lw_v (.int .i64 ((xs.length : Int))) (dv_len (ad := A) (l := xs.length) (c := c) us67 (T rfl rfl)) ?_
  refine lw_v (.int .i64 (((xs.length : Int)) + 1)) (dv_add (a := (xs.length : Int)) (b := 1) (z := ((xs.length : Int)) + 1) (T rfl rfl) C (wr_i64 (by omega) (by omega))) ?_
  refine lw_e (oe_makeW (l := ((xs.length) + 1)) (j := ((xs.length : Int)) + 1) us67 in22 (T rfl rfl) (T rfl rfl) (by omega) (by first | omega | (simp; done) | (simp; omega)) (by first | omega | (simp; done) | (simp; omega)) ?_)
  intro b1 w2 n3
  have N4 : w.heap.size ≤ b1 := n3.eq ▸ E0.size
  have E5 := below_ext E0 E0.size n3.ext
  refine lw_v (.slice (some ⟨b1, 0, none⟩) (((xs.length) + 1)) (((xs.length) + 1))) (dv_assign (T rfl rfl)) ?_
  refine lw_nil ?_
  refine rk_seq ?_
  refine rk_seq ?_
  refine rk_reg ?_
  refine lw_v (.slice A (xs.length) c) (dv_move (T rfl rfl)) ?_
  refine lw_v (.int .i64 ((xs.length : Int))) (dv_len (ad := A) (l := xs.length) (c := c) us67 (T rfl rfl)) ?_
  refine lw_v (.int .i64 0) (dv_move C) ?_
  refine lw_nil ?_
  refine rk_block ?_
  refine rk_loop (fun dm_ fr wl => ∃ (i : Nat) (L : List Int), dm_ = xs.length - i ∧ fr 1 = .int .i64 ((S : Int)) ∧ fr 4 = .slice none 0 0 ∧ fr 5 = .slice (some ⟨b1, 0, none⟩) (((xs.length) + 1)) (((xs.length) + 1)) ∧ fr 12 = .slice A (xs.length) c ∧ fr 13 = .int .i64 ((xs.length : Int)) ∧ fr 14 = .int .i64 ((i : Int)) ∧ Below w.heap.size w wl ∧ wl.heap[b1]? = some (.cells (L.map (Value.int .u64)).toArray 22) ∧ (i ≤ xs.length) ∧ (L.length = xs.length + 1) ∧ (okW (2 ^ 64) L) ∧ (valB (2 ^ 64) L = 2 ^ S * valB (2 ^ 64) (xs.take i)) ∧ (∀ q, i < q → L.getD q 0 = 0) ∧ (L.getD i 0 < 2 ^ S)) (xs.length - 0) ⟨0, (List.replicate (((xs.length) + 1)) (0 : Int)), rfl, rfl, rfl, rfl, rfl, rfl, (vi (by omega)), E5, n3.blk, (Nat.zero_le _), (by simp), (okW.replicate (by decide) _), (by rw [valB_zeros, List.take_zero]; simp [valB]), (fun q _ => rep_zero _ q), (by rw [rep_zero]; exact two_pos S)⟩ ?_
  intro d10 fr9 w6 hI7 ih8
  obtain ⟨i, L, hd19, f11, f12, f13, f14, f15, f16, E17, H18, hi, hl, hok, hv, hz, hb⟩ := hI7
  have bx := okW.getD ox (by decide) i
  have bL := okW.getD hok (by decide) i
  have bp : (2 : Int) ^ S ≤ 2 ^ 63 := pow_le_of (by decide) hS
  have bm := shl_mod (x := xs.getD i 0) (S := S) (by omega)
  have e63 : (2 : Int) ^ 63 = 9223372036854775808 := by decide
  refine rk_seq ?_
  refine rk_reg ?_
  refine lw_v (.bool (decide (((i : Int)) < ((xs.length : Int))))) (dv_lss (a := (i : Int)) (b := (xs.length : Int)) (T rfl f16) (T rfl f15)) ?_
  refine lw_nil ?_
  refine rk_seq ?_
  by_cases hb20 : ((i : Int)) < ((xs.length : Int))
  · -- LT
    refine rk_ct (T rfl (congrArg Value.bool (decide_eq_true hb20))) ?_
    refine rk_skip ?_
    refine rk_seq ?_
    refine rk_block ?_
    refine rk_seq ?_
    refine rk_reg ?_
    refine lw_v (.int .i64 ((i : Int))) (dv_move (T rfl f16)) ?_
    have h21 := (hx.ext E17)
    obtain ⟨g22, o23, rfl⟩ := Wd.at h21 (by first | omega | (simp; done) | (simp; omega))
    refine lw_v (.pointer (some ⟨g22, o23 + i, none⟩)) (dv_indexW (g := g22) (o := o23) (l := xs.length) (c := c) (i := i) (j := (i : Int)) us67 sz22 (T rfl f14) (T rfl f16) (by omega) (by first | omega | (simp; done) | (simp; omega))) ?_
    refine lw_v (.int .u64 (xs.getD i 0)) (dv_load agt22 (T rfl rfl) (Wd.cell h21 (by first | omega | (simp; done) | (simp; omega)))) ?_
    refine lw_v (.int .i64 ((i : Int))) (dv_assign (T rfl rfl)) ?_
    refine lw_v (.int .u64 (xs.getD i 0)) (dv_assign (T rfl rfl)) ?_
    refine lw_nil ?_
    refine rk_seq ?_
    refine rk_any (fun w => w.heap[b1]? = some (.cells (L.map (Value.int .u64)).toArray 22)) [9] mo ?_
    intro w24 d25
    have E26 := below_ext E17 E17.size d25.ext
    have H27 := (d25.ext.blk H18)
    refine aw_pure 0 (.slice (some ⟨b1, 0, none⟩) (((xs.length) + 1)) (((xs.length) + 1))) rfl (by kernel_rfl) .none H27 (fun _ => dv_move (T rfl f13)) ?_
    refine aw_pure 1 (.int .i64 ((i : Int))) rfl (by kernel_rfl) .none H27 (fun _ => dv_move (T rfl rfl)) ?_
    refine aw_pure 2 (.pointer (some ⟨b1, i, none⟩)) rfl (by kernel_rfl) .none H27 (fun _ => dv_indexO (g := b1) (l := ((xs.length) + 1)) (c := ((xs.length) + 1)) (i := i) (j := (i : Int)) us67 sz22 (T rfl rfl) (T rfl rfl) (by omega) (by first | omega | (simp; done) | (simp; omega))) ?_
    refine aw_load 3 (.int .u64 (L.getD i 0)) rfl (by kernel_rfl) .none H27 (fun _ s => dv_loadW (L := L) (v := L.getD i 0) agt22 (T rfl rfl) s (by first | omega | (simp; done) | (simp; omega)) rfl) ?_
    refine aw_pure 4 (.int .u64 (xs.getD i 0)) rfl (by kernel_rfl) .none H27 (fun _ => dv_move (T rfl rfl)) ?_
    refine aw_pure 5 (.int .i64 ((S : Int))) rfl (by kernel_rfl) .none H27 (fun _ => dv_move (T rfl f11)) ?_
    refine aw_pure 6 (.int .u64 (((xs.getD i 0) * 2 ^ S) % 18446744073709551616)) rfl (by kernel_rfl) .none H27 (fun _ => dv_shl (a := xs.getD i 0) (b := (S : Int)) (z := ((xs.getD i 0) * 2 ^ S) % 18446744073709551616) (T rfl rfl) (T rfl rfl) (by omega) (shl_w (K := S) (by omega) (show _ ≤ 64 by omega) (wr_u64 _))) ?_
    refine aw_pure 7 (.int .u64 ((L.getD i 0) + (((xs.getD i 0) * 2 ^ S) % 18446744073709551616))) rfl (by kernel_rfl) .none H27 (fun _ => dv_or (a := L.getD i 0) (b := ((xs.getD i 0) * 2 ^ S) % 18446744073709551616) (z := (L.getD i 0) + (((xs.getD i 0) * 2 ^ S) % 18446744073709551616)) (T rfl rfl) (T rfl rfl) ((or_add (k := .u64) (a := L.getD i 0) (b := ((xs.getD i 0) * 2 ^ S) % 18446744073709551616) (i := S) rfl bL.1 hb (by omega) bm (lt64 (by omega)) (lt64 (by omega))).1)) ?_
    refine aw_pure 8 (.pointer (some ⟨b1, i, none⟩)) rfl (by kernel_rfl) .none H27 (fun _ => dv_indexO (g := b1) (l := ((xs.length) + 1)) (c := ((xs.length) + 1)) (i := i) (j := (i : Int)) us67 sz22 (T rfl rfl) (T rfl rfl) (by omega) (by first | omega | (simp; done) | (simp; omega))) ?_
    refine aw_one 9 rfl (by kernel_rfl) .none (oe_storeW (L := L) (i := i) (z := (L.getD i 0) + (((xs.getD i 0) * 2 ^ S) % 18446744073709551616)) sz22 (T rfl rfl) (T rfl rfl) H27 (by first | omega | (simp; done) | (simp; omega)) ?_)
    intro w28 s29 H30
    have E31 := below_st E26 N4 s29
    refine ⟨.inl rfl, ?_⟩
    refine aw_done (by kernel_rfl) ?_
    refine rk_seq ?_
    refine rk_reg ?_
    refine lw_v (.int .i64 ((S : Int))) (dv_move (T rfl f11)) ?_
    refine lw_v (.bool (decide (0 < ((S : Int))))) (dv_gtr (a := (S : Int)) (b := 0) (T rfl rfl) C) ?_
    refine lw_nil ?_
    by_cases hb32 : 0 < ((S : Int))
    · -- LTT
      refine rk_ct (T rfl (congrArg Value.bool (decide_eq_true hb32))) ?_
      refine rk_reg ?_
      refine lw_v (.slice (some ⟨b1, 0, none⟩) (((xs.length) + 1)) (((xs.length) + 1))) (dv_move (T rfl f13)) ?_
      refine lw_v (.int .i64 ((i : Int))) (dv_move (T rfl rfl)) ?_
      refine lw_v (.int .i64 (((i : Int)) + 1)) (dv_add (a := (i : Int)) (b := 1) (z := ((i : Int)) + 1) (T rfl rfl) C (wr_i64 (by omega) (by omega))) ?_
      refine lw_v (.int .u64 (xs.getD i 0)) (dv_move (T rfl rfl)) ?_
      refine lw_v (.int .i64 ((S : Int))) (dv_move (T rfl f11)) ?_
      refine lw_v (.int .i64 (64 - ((S : Int)))) (dv_sub (a := 64) (b := (S : Int)) (z := 64 - ((S : Int))) C (T rfl rfl) (wr_i64 (by omega) (by omega))) ?_
      refine lw_v (.int .u64 ((xs.getD i 0) / 2 ^ ((64 - (S))))) (dv_shr (a := xs.getD i 0) (b := 64 - ((S : Int))) (z := (xs.getD i 0) / 2 ^ ((64 - (S)))) (T rfl rfl) (T rfl rfl) (by omega) (shr_v (K := (64 - (S))) (by omega) (show _ ≤ 64 by omega))) ?_
      refine lw_v (.pointer (some ⟨b1, (((i) + 1)), none⟩)) (dv_indexO (g := b1) (l := ((xs.length) + 1)) (c := ((xs.length) + 1)) (i := ((i) + 1)) (j := ((i : Int)) + 1) us67 sz22 (T rfl rfl) (T rfl rfl) (by omega) (by first | omega | (simp; done) | (simp; omega))) ?_
      refine lw_e (oe_storeW (L := (L.set i ((L.getD i 0) + (((xs.getD i 0) * 2 ^ S) % 18446744073709551616)))) (i := ((i) + 1)) (z := (xs.getD i 0) / 2 ^ ((64 - (S)))) sz22 (T rfl rfl) (T rfl rfl) H30 (by first | omega | (simp; done) | (simp; omega)) ?_)
      intro w33 s34 H35
      have E36 := below_st E31 N4 s34
      refine lw_nil ?_
      refine rk_inBlock ?_
      refine rk_reg ?_
      refine lw_v (.int .i64 (((i : Int)) + 1)) (dv_add (a := (i : Int)) (b := 1) (z := ((i : Int)) + 1) (T rfl f16) C (wr_i64 (by omega) (by omega))) ?_
      refine lw_v (.int .i64 (((i : Int)) + 1)) (dv_move (T rfl rfl)) ?_
      refine lw_nil ?_
      exact ih8 (xs.length - ((i + 1))) _ _ (by rw [hd19]; omega) ⟨(i + 1), (((L.set i ((L.getD i 0) + (((xs.getD i 0) * 2 ^ S) % 18446744073709551616)))).set (((i) + 1)) ((xs.getD i 0) / 2 ^ ((64 - (S))))), rfl, f11, f12, f13, f14, f15, (vi (by omega)), E36, H35, (by omega), (shf_T hS (by omega) hl hok hv hz hb rfl bx.1 bx.2 rfl rfl).1, (shf_T hS (by omega) hl hok hv hz hb rfl bx.1 bx.2 rfl rfl).2.1, (shf_T hS (by omega) hl hok hv hz hb rfl bx.1 bx.2 rfl rfl).2.2.1, (shf_T hS (by omega) hl hok hv hz hb rfl bx.1 bx.2 rfl rfl).2.2.2.1, (shf_T hS (by omega) hl hok hv hz hb rfl bx.1 bx.2 rfl rfl).2.2.2.2⟩
    · -- LTF
      refine rk_cf (T rfl (congrArg Value.bool (decide_eq_false hb32))) ?_
      refine rk_skip ?_
      refine rk_inBlock ?_
      refine rk_reg ?_
      refine lw_v (.int .i64 (((i : Int)) + 1)) (dv_add (a := (i : Int)) (b := 1) (z := ((i : Int)) + 1) (T rfl f16) C (wr_i64 (by omega) (by omega))) ?_
      refine lw_v (.int .i64 (((i : Int)) + 1)) (dv_move (T rfl rfl)) ?_
      refine lw_nil ?_
      exact ih8 (xs.length - ((i + 1))) _ _ (by rw [hd19]; omega) ⟨(i + 1), (L.set i ((L.getD i 0) + (((xs.getD i 0) * 2 ^ S) % 18446744073709551616))), rfl, f11, f12, f13, f14, f15, (vi (by omega)), E31, H30, (by omega), (shf_F (by omega) (by omega) hl hok hv hz hb rfl bx.1 bx.2 rfl).1, (shf_F (by omega) (by omega) hl hok hv hz hb rfl bx.1 bx.2 rfl).2.1, (shf_F (by omega) (by omega) hl hok hv hz hb rfl bx.1 bx.2 rfl).2.2.1, (shf_F (by omega) (by omega) hl hok hv hz hb rfl bx.1 bx.2 rfl).2.2.2.1, (shf_F (by omega) (by omega) hl hok hv hz hb rfl bx.1 bx.2 rfl).2.2.2.2⟩
  · -- LF
    refine rk_cf (T rfl (congrArg Value.bool (decide_eq_false hb20))) ?_
    refine rk_exit rfl ?_
    refine rk_seq ?_
    refine rk_reg ?_
    refine lw_v (.slice (some ⟨b1, 0, none⟩) (((xs.length) + 1)) (((xs.length) + 1))) (dv_move (T rfl f13)) ?_
    refine lw_v (.slice (some ⟨b1, 0, none⟩) (((xs.length) + 1)) (((xs.length) + 1))) (dv_assign (T rfl rfl)) ?_
    refine lw_nil ?_
    refine rk_ret Try.func124 (v := .slice (some ⟨b1, 0, none⟩) (((xs.length) + 1)) (((xs.length) + 1))) (res1 Try.results124 (rv_tmp rfl rfl)) ⟨_, rfl, ?_⟩
    exact ⟨_, _, rfl, E17, H18, N4, hl, hok, by rw [hv, List.take_of_length_le (by omega)]⟩

theorem shifted_okl {w : World} {A : Option Addr} {l c S : Nat} {xs : List Int} (hx : Wd w 22 .u64 A xs) (hS : S ≤ 63) (ox : okW (2 ^ 64) xs) (lx : xs.length ≤ 500000) (hl : xs.length = l) : Ct Try.prog 124 [.slice A l c, .int .i64 (S : Int)] w fun v w1 =>
    ∃ b L, v = .slice (some ⟨b, 0, none⟩) (xs.length + 1) (xs.length + 1) ∧ Ext w w1 ∧ w1.heap[b]? = some (.cells (L.map (Value.int .u64)).toArray 22) ∧ w.heap.size ≤ b ∧ L.length = xs.length + 1 ∧ okW (2 ^ 64) L ∧ valB (2 ^ 64) L = 2 ^ S * valB (2 ^ 64) xs := by
  subst hl
  exact shifted_ok hx hS ox lx

end Go.Proofs.Ytpnjkjahfklfnaa.W
