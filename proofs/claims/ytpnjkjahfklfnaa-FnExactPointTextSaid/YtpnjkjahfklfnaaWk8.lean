/- Wk8: walks, written by a program of this session. -/
import Derived.Test.YtpnjkjahfklfnaaWk7
set_option linter.unusedVariables false
set_option linter.unusedSimpArgs false
namespace Go.Proofs.Ytpnjkjahfklfnaa.W
open Go Go.RowKit Go.Proofs.Ytpnjkjahfklfnaa.Fw
attribute [local irreducible] RunK LW AW DV OE Ct
theorem co106 : callOk Try.prog 106 = true := by kernel_rfl
set_option maxHeartbeats 1000000 in
theorem l1Int_ok {w : World} {x : Int} (hx : -9223372036854775808 ≤ x ∧ x ≤ 9223372036854775807) : Ct Try.prog 60 [.int .i64 x] w fun v w1 => ∃ nr A' n c', v = .agg #[.bool nr, .slice A' n c'] ∧ Ext w w1 ∧ Num 32 115 .u32 w1 nr A' n c' (x) (64) := by
  refine ct_run (n := 19) Try.func60 rfl Try.ntmps60 rfl ?_
  have E0 : Below w.heap.size w w := Below.refl _ _
  refine rk_seq ?_
  refine rk_reg ?_
  refine lw_e (oe_alloc ze62 ?_)
  intro b1 w2 n3
  have N4 : w.heap.size ≤ b1 := n3.eq ▸ E0.size
  have E5 := below_ext E0 E0.size n3.ext
  refine lw_nil ?_
  refine rk_seq ?_
  refine rk_reg ?_
  refine lw_v (.int .i64 x) (dv_move (T rfl rfl)) ?_
  refine lw_v (.int .u64 ((x) % 18446744073709551616)) (dv_conv (a := x) (z := (x) % 18446744073709551616) ui2 ui22 (T rfl rfl) (wr_u64 _)) ?_
  refine lw_v (.int .u64 ((x) % 18446744073709551616)) (dv_assign (T rfl rfl)) ?_
  refine lw_nil ?_
  refine rk_seq ?_
  refine rk_seq ?_
  refine rk_reg ?_
  refine lw_v (.int .i64 x) (dv_move (T rfl rfl)) ?_
  refine lw_v (.bool (decide (x < 0))) (dv_lss (a := x) (b := 0) (T rfl rfl) C) ?_
  refine lw_nil ?_
  by_cases hb6 : x < 0
  · -- T
    refine rk_ct (T rfl (congrArg Value.bool (decide_eq_true hb6))) ?_
    refine rk_reg ?_
    refine lw_v (.int .u64 ((x) % 18446744073709551616)) (dv_move (T rfl rfl)) ?_
    refine lw_v (.int .u64 ((0 - ((x) % 18446744073709551616)) % 18446744073709551616)) (dv_sub (a := 0) (b := (x) % 18446744073709551616) (z := (0 - ((x) % 18446744073709551616)) % 18446744073709551616) C (T rfl rfl) (wr_u64 _)) ?_
    refine lw_v (.int .u64 ((0 - ((x) % 18446744073709551616)) % 18446744073709551616)) (dv_assign (T rfl rfl)) ?_
    refine lw_nil ?_
    refine rk_seq ?_
    refine rk_reg ?_
    refine lw_v (.int .i64 x) (dv_move (T rfl rfl)) ?_
    refine lw_v (.bool (decide (x < 0))) (dv_lss (a := x) (b := 0) (T rfl rfl) C) ?_
    refine lw_v (.int .u64 ((0 - ((x) % 18446744073709551616)) % 18446744073709551616)) (dv_move (T rfl rfl)) ?_
    refine lw_v (.int .u32 (((0 - ((x) % 18446744073709551616)) % 18446744073709551616) % 4294967296)) (dv_conv (a := (0 - ((x) % 18446744073709551616)) % 18446744073709551616) (z := ((0 - ((x) % 18446744073709551616)) % 18446744073709551616) % 4294967296) ui22 ui115 (T rfl rfl) (wr_u32 _)) ?_
    refine lw_v (.int .u64 ((0 - ((x) % 18446744073709551616)) % 18446744073709551616)) (dv_move (T rfl rfl)) ?_
    refine lw_v (.int .u64 (((0 - ((x) % 18446744073709551616)) % 18446744073709551616) / 4294967296)) (dv_shr (a := (0 - ((x) % 18446744073709551616)) % 18446744073709551616) (b := 32) (z := ((0 - ((x) % 18446744073709551616)) % 18446744073709551616) / 4294967296) (T rfl rfl) C (by decide) (shr_c (n := 32) (by omega) (by decide))) ?_
    refine lw_v (.int .u32 ((((0 - ((x) % 18446744073709551616)) % 18446744073709551616) / 4294967296) % 4294967296)) (dv_conv (a := ((0 - ((x) % 18446744073709551616)) % 18446744073709551616) / 4294967296) (z := (((0 - ((x) % 18446744073709551616)) % 18446744073709551616) / 4294967296) % 4294967296) ui22 ui115 (T rfl rfl) (wr_u32 _)) ?_
    refine lw_e (oe_buildSlice (pv := [(0, .int .u32 (((0 - ((x) % 18446744073709551616)) % 18446744073709551616) % 4294967296)), (1, .int .u32 ((((0 - ((x) % 18446744073709551616)) % 18446744073709551616) / 4294967296) % 4294967296))]) (init := [.int .u32 0, .int .u32 0]) (l := [.int .u32 (((0 - ((x) % 18446744073709551616)) % 18446744073709551616) % 4294967296), .int .u32 ((((0 - ((x) % 18446744073709551616)) % 18446744073709551616) / 4294967296) % 4294967296)]) us60 sz115 rfl rfl zc115 (by kernel_rfl) ⟨rfl, (T rfl rfl), ⟨rfl, (T rfl rfl), trivial⟩⟩ rfl ?_)
    intro b7 w8 n9
    have N10 : w.heap.size ≤ b7 := n9.eq ▸ E5.size
    have : b1 < b7 := n9.eq ▸ lt_of_blk n3.blk
    have E11 := below_ext E5 E5.size n9.ext
    refine lw_e (oe_callf (vs := [.bool (decide (x < 0)), .slice (some ⟨b7, 0, none⟩) 2 2]) co89 (ar2 (T rfl rfl) (T rfl rfl)) (l1Trim_num (s := 64) (neg := decide (x < 0)) (⟨[((0 - ((x) % 18446744073709551616)) % 18446744073709551616) % 4294967296, (((0 - ((x) % 18446744073709551616)) % 18446744073709551616) / 4294967296) % 4294967296], rfl, Nat.le_refl _, Wd.ownW n9.blk, (okW_lit (by simp <;> omega)), rfl⟩ : Ws _ _ _ _ _ _ _ _) (by first | omega | decide) (valB_sz (m := 32) (xs := [((0 - ((x) % 18446744073709551616)) % 18446744073709551616) % 4294967296, (((0 - ((x) % 18446744073709551616)) % 18446744073709551616) / 4294967296) % 4294967296]) (n := 2) (okW_lit (by simp <;> omega)) rfl)) ?_)
    rintro _ w17 ⟨nb12, A13, n14, c15, rfl, e18, hn16⟩
    have E19 := below_ext E11 E11.size e18
    have lhn16 := Num.len (by decide) hn16
    have H20 := (e18.blk (n9.ext.blk n3.blk))
    refine lw_e (oe_store (v := .agg #[.bool nb12, .slice A13 n14 c15]) (vs := [.bool nb12, .slice A13 n14 c15]) (l := [.bool nb12, .slice A13 n14 c15]) (T rfl rfl) (T rfl rfl) sz62 rfl rfl rfl H20 rfl ?_)
    intro w21 s22 H23
    have E24 := below_st E19 N4 s22
    refine lw_nil ?_
    refine rk_ret Try.func60 (v := .agg #[.bool nb12, .slice A13 n14 c15]) (res1 Try.results60 (rv_cells (l := [.bool nb12, .slice A13 n14 c15]) agt62 sz62 rfl rfl H23 rfl)) ⟨_, rfl, ?_⟩
    have h25 := (hn16.st s22 H20 (by decide))
    exact ⟨_, _, _, _, rfl, E24, h25.tight (int_32 (by omega) (by omega)) (by have e : (2 : Nat) ^ 64 = 18446744073709551616 := (by decide); omega)⟩
  · -- F
    refine rk_cf (T rfl (congrArg Value.bool (decide_eq_false hb6))) ?_
    refine rk_skip ?_
    refine rk_seq ?_
    refine rk_reg ?_
    refine lw_v (.int .i64 x) (dv_move (T rfl rfl)) ?_
    refine lw_v (.bool (decide (x < 0))) (dv_lss (a := x) (b := 0) (T rfl rfl) C) ?_
    refine lw_v (.int .u64 ((x) % 18446744073709551616)) (dv_move (T rfl rfl)) ?_
    refine lw_v (.int .u32 (((x) % 18446744073709551616) % 4294967296)) (dv_conv (a := (x) % 18446744073709551616) (z := ((x) % 18446744073709551616) % 4294967296) ui22 ui115 (T rfl rfl) (wr_u32 _)) ?_
    refine lw_v (.int .u64 ((x) % 18446744073709551616)) (dv_move (T rfl rfl)) ?_
    refine lw_v (.int .u64 (((x) % 18446744073709551616) / 4294967296)) (dv_shr (a := (x) % 18446744073709551616) (b := 32) (z := ((x) % 18446744073709551616) / 4294967296) (T rfl rfl) C (by decide) (shr_c (n := 32) (by omega) (by decide))) ?_
    refine lw_v (.int .u32 ((((x) % 18446744073709551616) / 4294967296) % 4294967296)) (dv_conv (a := ((x) % 18446744073709551616) / 4294967296) (z := (((x) % 18446744073709551616) / 4294967296) % 4294967296) ui22 ui115 (T rfl rfl) (wr_u32 _)) ?_
    refine lw_e (oe_buildSlice (pv := [(0, .int .u32 (((x) % 18446744073709551616) % 4294967296)), (1, .int .u32 ((((x) % 18446744073709551616) / 4294967296) % 4294967296))]) (init := [.int .u32 0, .int .u32 0]) (l := [.int .u32 (((x) % 18446744073709551616) % 4294967296), .int .u32 ((((x) % 18446744073709551616) / 4294967296) % 4294967296)]) us60 sz115 rfl rfl zc115 (by kernel_rfl) ⟨rfl, (T rfl rfl), ⟨rfl, (T rfl rfl), trivial⟩⟩ rfl ?_)
    intro b26 w27 n28
    have N29 : w.heap.size ≤ b26 := n28.eq ▸ E5.size
    have : b1 < b26 := n28.eq ▸ lt_of_blk n3.blk
    have E30 := below_ext E5 E5.size n28.ext
    refine lw_e (oe_callf (vs := [.bool (decide (x < 0)), .slice (some ⟨b26, 0, none⟩) 2 2]) co89 (ar2 (T rfl rfl) (T rfl rfl)) (l1Trim_num (s := 64) (neg := decide (x < 0)) (⟨[((x) % 18446744073709551616) % 4294967296, (((x) % 18446744073709551616) / 4294967296) % 4294967296], rfl, Nat.le_refl _, Wd.ownW n28.blk, (okW_lit (by simp <;> omega)), rfl⟩ : Ws _ _ _ _ _ _ _ _) (by first | omega | decide) (valB_sz (m := 32) (xs := [((x) % 18446744073709551616) % 4294967296, (((x) % 18446744073709551616) / 4294967296) % 4294967296]) (n := 2) (okW_lit (by simp <;> omega)) rfl)) ?_)
    rintro _ w36 ⟨nb31, A32, n33, c34, rfl, e37, hn35⟩
    have E38 := below_ext E30 E30.size e37
    have lhn35 := Num.len (by decide) hn35
    have H39 := (e37.blk (n28.ext.blk n3.blk))
    refine lw_e (oe_store (v := .agg #[.bool nb31, .slice A32 n33 c34]) (vs := [.bool nb31, .slice A32 n33 c34]) (l := [.bool nb31, .slice A32 n33 c34]) (T rfl rfl) (T rfl rfl) sz62 rfl rfl rfl H39 rfl ?_)
    intro w40 s41 H42
    have E43 := below_st E38 N4 s41
    refine lw_nil ?_
    refine rk_ret Try.func60 (v := .agg #[.bool nb31, .slice A32 n33 c34]) (res1 Try.results60 (rv_cells (l := [.bool nb31, .slice A32 n33 c34]) agt62 sz62 rfl rfl H42 rfl)) ⟨_, rfl, ?_⟩
    have h44 := (hn35.st s41 H39 (by decide))
    exact ⟨_, _, _, _, rfl, E43, h44.tight (int_32 (by omega) (by omega)) (by have e : (2 : Nat) ^ 64 = 18446744073709551616 := (by decide); omega)⟩

set_option maxHeartbeats 1000000 in
theorem l1Wide_ok {w : World} {na : Bool} {Aa : Option Addr} {la ca : Nat} {x : Int} {sx : Nat} (ha : Num 32 115 .u32 w na Aa la ca x sx) (hs : sx ≤ 400000) : Ct Try.prog 86 [.agg #[.bool na, .slice Aa la ca]] w fun v w1 => v = .tuple #[.agg #[.int .u64 (wv3 x), .int .u64 (wv2 x), .int .u64 (wv1 x), .int .u64 (wv0 x)], .bool (decide (fits x))] ∧ Ext w w1 := by
  refine ct_run (n := 77) Try.func86 rfl Try.ntmps86 rfl ?_
  have E0 : Below w.heap.size w w := Below.refl _ _
  have lha := Num.len (by decide) ha
  have e1 : valB (2 ^ 32) [1] = 1 := by simp [valB]
  have hn := ha.neg_iff
  have hn2 : na = false → ¬ x < 0 := fun h h2 => by rw [hn.2 h2] at h; cases h
  have nb := nb255 (x := x) (y := ((x.natAbs : Nat) : Int).toNat) (Int.toNat_natCast _)
  refine rk_seq ?_
  refine rk_reg ?_
  refine lw_e (oe_box (v := .agg #[.bool na, .slice Aa la ca]) (cs := #[.bool na, .slice Aa la ca]) (T rfl rfl) rfl ?_)
  intro b1 w2 n3
  have N4 : w.heap.size ≤ b1 := n3.eq ▸ E0.size
  have E5 := below_ext E0 E0.size n3.ext
  refine lw_e (oe_alloc ze25 ?_)
  intro b6 w7 n8
  have N9 : w.heap.size ≤ b6 := n8.eq ▸ E5.size
  have : b1 < b6 := n8.eq ▸ lt_of_blk n3.blk
  have E10 := below_ext E5 E5.size n8.ext
  refine lw_v (.bool false) (dv_assign C) ?_
  refine lw_nil ?_
  refine rk_seq ?_
  refine rk_reg ?_
  refine lw_v (.pointer (some ⟨b1, 1, none⟩)) (dv_fieldAddr (a := ⟨b1, 0, none⟩) (a' := ⟨b1, 1, none⟩) fo62_1 (T rfl rfl) rfl) ?_
  have H11 := (n8.ext.blk n3.blk)
  refine lw_v (.slice Aa la ca) (dv_load1 (b := b1) (o := 1) agt60 (T rfl rfl) H11 rfl) ?_
  refine lw_v (.slice Aa la ca) (dv_assign (T rfl rfl)) ?_
  refine lw_nil ?_
  refine rk_seq ?_
  refine rk_seq ?_
  refine rk_reg ?_
  refine lw_v (.pointer (some ⟨b1, 0, none⟩)) (dv_fieldAddr (a := ⟨b1, 0, none⟩) (a' := ⟨b1, 0, none⟩) fo62_0 (T rfl rfl) rfl) ?_
  refine lw_v (.bool na) (dv_load1 (b := b1) (o := 0) agt4 (T rfl rfl) H11 rfl) ?_
  refine lw_nil ?_
  refine rk_join (fun fr wl => ∃ (ys : List Int) (Ay : Option Addr) (my cy : Nat), fr 2 = .pointer (some ⟨b6, 0, none⟩) ∧ fr 4 = .slice Ay my cy ∧ Below w.heap.size w wl ∧ wl.heap[b1]? = some (.cells #[.bool na, .slice Aa la ca] 62) ∧ wl.heap[b6]? = some (.cells #[.int .u64 0, .int .u64 0, .int .u64 0, .int .u64 0] 25) ∧ Wd wl 115 .u32 Ay ys ∧ (ys.length = my) ∧ (okW (2 ^ 32) ys) ∧ (my ≤ 1000000) ∧ (fits x) ∧ (valB (2 ^ 32) ys = x % 115792089237316195423570985008687907853269984665640564039457584007913129639936)) ?_ (fun hj14 => ?_)
  · -- behind the join
    intro fr15 w12 hI13
    obtain ⟨ys, Ay, my, cy, f16, f17, E18, H19, H20, h21, hy1, hyo, hyb, hyf, hyv⟩ := hI13
    refine rk_seq ?_
    refine rk_reg ?_
    refine lw_e (oe_makeW (l := 8) (j := 8) us67 in22 C C (by omega) (by first | omega | (simp; done) | (simp; omega)) (by first | omega | (simp; done) | (simp; omega)) ?_)
    intro b22 w23 n24
    have N25 : w.heap.size ≤ b22 := n24.eq ▸ E18.size
    have : b6 < b22 := n24.eq ▸ lt_of_blk H20
    have E26 := below_ext E18 E18.size n24.ext
    refine lw_v (.slice (some ⟨b22, 0, none⟩) 8 8) (dv_assign (T rfl rfl)) ?_
    refine lw_nil ?_
    refine rk_seq ?_
    refine rk_seq ?_
    refine rk_reg ?_
    refine lw_v (.int .i64 0) (dv_assign C) ?_
    refine lw_nil ?_
    refine rk_block ?_
    have h27 := (h21.ext n24.ext)
    have H28 := (n24.ext.blk H19)
    have H29 := (n24.ext.blk H20)
    refine rk_loop (fun dm_ fr wl => ∃ (i : Nat) (X : List Int), dm_ = 8 - i ∧ fr 2 = .pointer (some ⟨b6, 0, none⟩) ∧ fr 4 = .slice Ay my cy ∧ fr 5 = .slice (some ⟨b22, 0, none⟩) 8 8 ∧ fr 6 = .int .i64 ((i : Int)) ∧ Below w.heap.size w wl ∧ wl.heap[b1]? = some (.cells #[.bool na, .slice Aa la ca] 62) ∧ wl.heap[b6]? = some (.cells #[.int .u64 0, .int .u64 0, .int .u64 0, .int .u64 0] 25) ∧ wl.heap[b22]? = some (.cells (X.map (Value.int .u64)).toArray 22) ∧ Wd wl 115 .u32 Ay ys ∧ (i ≤ 8) ∧ (X.length = 8) ∧ (∀ j, j < 8 → X.getD j 0 = if j < i then ys.getD j 0 else 0)) (8 - 0) ⟨0, (List.replicate 8 (0 : Int)), rfl, f16, f17, rfl, (vi (by omega)), E26, H28, H29, n24.blk, h27, (by decide), (by simp), (fun j hj => by rw [if_neg (by omega)]; exact rep0 j)⟩ ?_
    intro d34 fr33 w30 hI31 ih32
    obtain ⟨i, X, hd44, f35, f36, f37, f38, E39, H40, H41, H42, h43, hi, hX, hXv⟩ := hI31
    have bx0 := put_rg hXv hyo 0 (by decide)
    have bx1 := put_rg hXv hyo 1 (by decide)
    have bx2 := put_rg hXv hyo 2 (by decide)
    have bx3 := put_rg hXv hyo 3 (by decide)
    have bx4 := put_rg hXv hyo 4 (by decide)
    have bx5 := put_rg hXv hyo 5 (by decide)
    have bx6 := put_rg hXv hyo 6 (by decide)
    have bx7 := put_rg hXv hyo 7 (by decide)
    have by_ := okW.getD hyo (by decide) i
    refine rk_seq ?_
    refine rk_seq ?_
    refine rk_reg ?_
    refine lw_v (.int .i64 ((i : Int))) (dv_move (T rfl f38)) ?_
    refine lw_v (.bool (decide (((i : Int)) < 8))) (dv_lss (a := (i : Int)) (b := 8) (T rfl rfl) C) ?_
    refine lw_v (.bool (decide (((i : Int)) < 8))) (dv_move (T rfl rfl)) ?_
    by_cases hb45 : ((i : Int)) < 8
    · -- JLT
      refine lw_vy (.int .i64 ((i : Int))) (d := 28) rfl rfl (congrArg Value.bool (decide_eq_true hb45)) (dv_move (T rfl f38)) ?_
      refine lw_vy (.slice Ay my cy) (d := 28) rfl rfl (congrArg Value.bool (decide_eq_true hb45)) (dv_move (T rfl f36)) ?_
      refine lw_vy (.int .i64 ((my : Int))) (d := 28) rfl rfl (congrArg Value.bool (decide_eq_true hb45)) (dv_len (ad := Ay) (l := my) (c := cy) us60 (T rfl rfl)) ?_
      refine lw_vy (.bool (decide (((i : Int)) < ((my : Int))))) (d := 28) rfl rfl (congrArg Value.bool (decide_eq_true hb45)) (dv_lss (a := (i : Int)) (b := (my : Int)) (T rfl rfl) (T rfl rfl)) ?_
      refine lw_v (.bool (decide (((i : Int)) < ((my : Int))))) (dv_pick_t (T rfl (congrArg Value.bool (decide_eq_true hb45))) (T rfl rfl)) ?_
      refine lw_nil ?_
      by_cases hb46 : ((i : Int)) < ((my : Int))
      · -- JLTT
        refine rk_ct (T rfl (congrArg Value.bool (decide_eq_true hb46))) ?_
        refine rk_skip ?_
        refine rk_seq ?_
        refine rk_block ?_
        refine rk_reg ?_
        refine lw_v (.slice (some ⟨b22, 0, none⟩) 8 8) (dv_move (T rfl f37)) ?_
        refine lw_v (.int .i64 ((i : Int))) (dv_move (T rfl f38)) ?_
        refine lw_v (.slice Ay my cy) (dv_move (T rfl f36)) ?_
        refine lw_v (.int .i64 ((i : Int))) (dv_move (T rfl f38)) ?_
        obtain ⟨g47, o48, rfl⟩ := Wd.at h43 (by first | omega | (simp; done) | (simp; omega))
        refine lw_v (.pointer (some ⟨g47, o48 + i, none⟩)) (dv_indexW (g := g47) (o := o48) (l := my) (c := cy) (i := i) (j := (i : Int)) us60 sz115 (T rfl rfl) (T rfl rfl) (by omega) (by first | omega | (simp; done) | (simp; omega))) ?_
        refine lw_v (.int .u32 (ys.getD i 0)) (dv_load agt115 (T rfl rfl) (Wd.cell h43 (by first | omega | (simp; done) | (simp; omega)))) ?_
        refine lw_v (.int .u64 (ys.getD i 0)) (dv_conv (a := ys.getD i 0) (z := ys.getD i 0) ui115 ui22 (T rfl rfl) (wn_u64 (by omega) (by omega))) ?_
        refine lw_v (.pointer (some ⟨b22, i, none⟩)) (dv_indexO (g := b22) (l := 8) (c := 8) (i := i) (j := (i : Int)) us67 sz22 (T rfl rfl) (T rfl rfl) (by omega) (by first | omega | (simp; done) | (simp; omega))) ?_
        refine lw_e (oe_storeW (L := X) (i := i) (z := ys.getD i 0) sz22 (T rfl rfl) (T rfl rfl) H42 (by first | omega | (simp; done) | (simp; omega)) ?_)
        intro w49 s50 H51
        have E52 := below_st E39 N25 s50
        refine lw_nil ?_
        refine rk_inBlock ?_
        refine rk_reg ?_
        refine lw_v (.int .i64 ((i : Int))) (dv_move (T rfl f38)) ?_
        refine lw_v (.int .i64 (((i : Int)) + 1)) (dv_add (a := (i : Int)) (b := 1) (z := ((i : Int)) + 1) (T rfl rfl) C (wr_i64 (by omega) (by omega))) ?_
        refine lw_v (.int .i64 (((i : Int)) + 1)) (dv_assign (T rfl rfl)) ?_
        refine lw_nil ?_
        have h53 := (h43.st s50 H42 (by decide))
        have H54 := (s50.blk H40 (by omega))
        have H55 := (s50.blk H41 (by omega))
        exact ih32 (8 - ((i + 1))) _ _ (by rw [hd44]; omega) ⟨(i + 1), (X.set i (ys.getD i 0)), rfl, f35, f36, f37, (vi (by omega)), E52, H54, H55, H51, h53, (by omega), (by simp [hX]), (put_step (by omega) hXv)⟩
      · -- JLTF
        refine rk_cf (T rfl (congrArg Value.bool (decide_eq_false hb46))) ?_
        refine rk_exit rfl ?_
        refine rk_seq ?_
        refine rk_any (fun w => w.heap[b22]? = some (.cells (X.map (Value.int .u64)).toArray 22)) [34] mo ?_
        intro w56 d57
        have E58 := below_ext E39 E39.size d57.ext
        have H59 := (d57.ext.blk H42)
        refine aw_pure 0 (.slice (some ⟨b22, 0, none⟩) 8 8) rfl (by kernel_rfl) .none H59 (fun _ => dv_move (T rfl f37)) ?_
        refine aw_pure 1 (.pointer (some ⟨b22, 7, none⟩)) rfl (by kernel_rfl) .none H59 (fun _ => dv_indexO (g := b22) (l := 8) (c := 8) (i := 7) (j := 7) us67 sz22 (T rfl rfl) C (by omega) (by first | omega | (simp; done) | (simp; omega))) ?_
        refine aw_load 2 (.int .u64 (X.getD 7 0)) rfl (by kernel_rfl) .none H59 (fun _ s => dv_loadW (L := X) (v := X.getD 7 0) agt22 (T rfl rfl) s (by first | omega | (simp; done) | (simp; omega)) rfl) ?_
        refine aw_pure 3 (.int .u64 ((X.getD 7 0) * 4294967296)) rfl (by kernel_rfl) .none H59 (fun _ => dv_shl (a := X.getD 7 0) (b := 32) (z := (X.getD 7 0) * 4294967296) (T rfl rfl) C (by decide) (shl_c (m := 4294967296) (n := 32) (by decide) (wn_u64 (by omega) (by omega)))) ?_
        refine aw_pure 4 (.slice (some ⟨b22, 0, none⟩) 8 8) rfl (by kernel_rfl) .none H59 (fun _ => dv_move (T rfl f37)) ?_
        refine aw_pure 5 (.pointer (some ⟨b22, 6, none⟩)) rfl (by kernel_rfl) .none H59 (fun _ => dv_indexO (g := b22) (l := 8) (c := 8) (i := 6) (j := 6) us67 sz22 (T rfl rfl) C (by omega) (by first | omega | (simp; done) | (simp; omega))) ?_
        refine aw_load 6 (.int .u64 (X.getD 6 0)) rfl (by kernel_rfl) .none H59 (fun _ s => dv_loadW (L := X) (v := X.getD 6 0) agt22 (T rfl rfl) s (by first | omega | (simp; done) | (simp; omega)) rfl) ?_
        refine aw_pure 7 (.int .u64 ((X.getD 6 0) + ((X.getD 7 0) * 4294967296))) rfl (by kernel_rfl) .none H59 (fun _ => dv_or (a := (X.getD 7 0) * 4294967296) (b := X.getD 6 0) (z := (X.getD 6 0) + ((X.getD 7 0) * 4294967296)) (T rfl rfl) (T rfl rfl) (or_add (k := .u64) (a := X.getD 6 0) (b := (X.getD 7 0) * 4294967296) (i := 32) rfl (by omega) (by omega) (by omega) (by omega) (lt64 (by omega)) (lt64 (by omega))).2) ?_
        refine aw_pure 8 (.slice (some ⟨b22, 0, none⟩) 8 8) rfl (by kernel_rfl) .none H59 (fun _ => dv_move (T rfl f37)) ?_
        refine aw_pure 9 (.pointer (some ⟨b22, 5, none⟩)) rfl (by kernel_rfl) .none H59 (fun _ => dv_indexO (g := b22) (l := 8) (c := 8) (i := 5) (j := 5) us67 sz22 (T rfl rfl) C (by omega) (by first | omega | (simp; done) | (simp; omega))) ?_
        refine aw_load 10 (.int .u64 (X.getD 5 0)) rfl (by kernel_rfl) .none H59 (fun _ s => dv_loadW (L := X) (v := X.getD 5 0) agt22 (T rfl rfl) s (by first | omega | (simp; done) | (simp; omega)) rfl) ?_
        refine aw_pure 11 (.int .u64 ((X.getD 5 0) * 4294967296)) rfl (by kernel_rfl) .none H59 (fun _ => dv_shl (a := X.getD 5 0) (b := 32) (z := (X.getD 5 0) * 4294967296) (T rfl rfl) C (by decide) (shl_c (m := 4294967296) (n := 32) (by decide) (wn_u64 (by omega) (by omega)))) ?_
        refine aw_pure 12 (.slice (some ⟨b22, 0, none⟩) 8 8) rfl (by kernel_rfl) .none H59 (fun _ => dv_move (T rfl f37)) ?_
        refine aw_pure 13 (.pointer (some ⟨b22, 4, none⟩)) rfl (by kernel_rfl) .none H59 (fun _ => dv_indexO (g := b22) (l := 8) (c := 8) (i := 4) (j := 4) us67 sz22 (T rfl rfl) C (by omega) (by first | omega | (simp; done) | (simp; omega))) ?_
        refine aw_load 14 (.int .u64 (X.getD 4 0)) rfl (by kernel_rfl) .none H59 (fun _ s => dv_loadW (L := X) (v := X.getD 4 0) agt22 (T rfl rfl) s (by first | omega | (simp; done) | (simp; omega)) rfl) ?_
        refine aw_pure 15 (.int .u64 ((X.getD 4 0) + ((X.getD 5 0) * 4294967296))) rfl (by kernel_rfl) .none H59 (fun _ => dv_or (a := (X.getD 5 0) * 4294967296) (b := X.getD 4 0) (z := (X.getD 4 0) + ((X.getD 5 0) * 4294967296)) (T rfl rfl) (T rfl rfl) (or_add (k := .u64) (a := X.getD 4 0) (b := (X.getD 5 0) * 4294967296) (i := 32) rfl (by omega) (by omega) (by omega) (by omega) (lt64 (by omega)) (lt64 (by omega))).2) ?_
        refine aw_pure 16 (.slice (some ⟨b22, 0, none⟩) 8 8) rfl (by kernel_rfl) .none H59 (fun _ => dv_move (T rfl f37)) ?_
        refine aw_pure 17 (.pointer (some ⟨b22, 3, none⟩)) rfl (by kernel_rfl) .none H59 (fun _ => dv_indexO (g := b22) (l := 8) (c := 8) (i := 3) (j := 3) us67 sz22 (T rfl rfl) C (by omega) (by first | omega | (simp; done) | (simp; omega))) ?_
        refine aw_load 18 (.int .u64 (X.getD 3 0)) rfl (by kernel_rfl) .none H59 (fun _ s => dv_loadW (L := X) (v := X.getD 3 0) agt22 (T rfl rfl) s (by first | omega | (simp; done) | (simp; omega)) rfl) ?_
        refine aw_pure 19 (.int .u64 ((X.getD 3 0) * 4294967296)) rfl (by kernel_rfl) .none H59 (fun _ => dv_shl (a := X.getD 3 0) (b := 32) (z := (X.getD 3 0) * 4294967296) (T rfl rfl) C (by decide) (shl_c (m := 4294967296) (n := 32) (by decide) (wn_u64 (by omega) (by omega)))) ?_
        refine aw_pure 20 (.slice (some ⟨b22, 0, none⟩) 8 8) rfl (by kernel_rfl) .none H59 (fun _ => dv_move (T rfl f37)) ?_
        refine aw_pure 21 (.pointer (some ⟨b22, 2, none⟩)) rfl (by kernel_rfl) .none H59 (fun _ => dv_indexO (g := b22) (l := 8) (c := 8) (i := 2) (j := 2) us67 sz22 (T rfl rfl) C (by omega) (by first | omega | (simp; done) | (simp; omega))) ?_
        refine aw_load 22 (.int .u64 (X.getD 2 0)) rfl (by kernel_rfl) .none H59 (fun _ s => dv_loadW (L := X) (v := X.getD 2 0) agt22 (T rfl rfl) s (by first | omega | (simp; done) | (simp; omega)) rfl) ?_
        refine aw_pure 23 (.int .u64 ((X.getD 2 0) + ((X.getD 3 0) * 4294967296))) rfl (by kernel_rfl) .none H59 (fun _ => dv_or (a := (X.getD 3 0) * 4294967296) (b := X.getD 2 0) (z := (X.getD 2 0) + ((X.getD 3 0) * 4294967296)) (T rfl rfl) (T rfl rfl) (or_add (k := .u64) (a := X.getD 2 0) (b := (X.getD 3 0) * 4294967296) (i := 32) rfl (by omega) (by omega) (by omega) (by omega) (lt64 (by omega)) (lt64 (by omega))).2) ?_
        refine aw_pure 24 (.slice (some ⟨b22, 0, none⟩) 8 8) rfl (by kernel_rfl) .none H59 (fun _ => dv_move (T rfl f37)) ?_
        refine aw_pure 25 (.pointer (some ⟨b22, 1, none⟩)) rfl (by kernel_rfl) .none H59 (fun _ => dv_indexO (g := b22) (l := 8) (c := 8) (i := 1) (j := 1) us67 sz22 (T rfl rfl) C (by omega) (by first | omega | (simp; done) | (simp; omega))) ?_
        refine aw_load 26 (.int .u64 (X.getD 1 0)) rfl (by kernel_rfl) .none H59 (fun _ s => dv_loadW (L := X) (v := X.getD 1 0) agt22 (T rfl rfl) s (by first | omega | (simp; done) | (simp; omega)) rfl) ?_
        refine aw_pure 27 (.int .u64 ((X.getD 1 0) * 4294967296)) rfl (by kernel_rfl) .none H59 (fun _ => dv_shl (a := X.getD 1 0) (b := 32) (z := (X.getD 1 0) * 4294967296) (T rfl rfl) C (by decide) (shl_c (m := 4294967296) (n := 32) (by decide) (wn_u64 (by omega) (by omega)))) ?_
        refine aw_pure 28 (.slice (some ⟨b22, 0, none⟩) 8 8) rfl (by kernel_rfl) .none H59 (fun _ => dv_move (T rfl f37)) ?_
        refine aw_pure 29 (.pointer (some ⟨b22, 0, none⟩)) rfl (by kernel_rfl) .none H59 (fun _ => dv_indexO (g := b22) (l := 8) (c := 8) (i := 0) (j := 0) us67 sz22 (T rfl rfl) C (by omega) (by first | omega | (simp; done) | (simp; omega))) ?_
        refine aw_load 30 (.int .u64 (X.getD 0 0)) rfl (by kernel_rfl) .none H59 (fun _ s => dv_loadW (L := X) (v := X.getD 0 0) agt22 (T rfl rfl) s (by first | omega | (simp; done) | (simp; omega)) rfl) ?_
        refine aw_pure 31 (.int .u64 ((X.getD 0 0) + ((X.getD 1 0) * 4294967296))) rfl (by kernel_rfl) .none H59 (fun _ => dv_or (a := (X.getD 1 0) * 4294967296) (b := X.getD 0 0) (z := (X.getD 0 0) + ((X.getD 1 0) * 4294967296)) (T rfl rfl) (T rfl rfl) (or_add (k := .u64) (a := X.getD 0 0) (b := (X.getD 1 0) * 4294967296) (i := 32) rfl (by omega) (by omega) (by omega) (by omega) (lt64 (by omega)) (lt64 (by omega))).2) ?_
        refine aw_pure 32 (.agg #[.int .u64 ((X.getD 6 0) + ((X.getD 7 0) * 4294967296)), .int .u64 ((X.getD 4 0) + ((X.getD 5 0) * 4294967296)), .int .u64 ((X.getD 2 0) + ((X.getD 3 0) * 4294967296)), .int .u64 ((X.getD 0 0) + ((X.getD 1 0) * 4294967296))]) rfl (by kernel_rfl) .none H59 (fun _ => dv_build (pv := [(0, .int .u64 ((X.getD 6 0) + ((X.getD 7 0) * 4294967296))), (1, .int .u64 ((X.getD 4 0) + ((X.getD 5 0) * 4294967296))), (2, .int .u64 ((X.getD 2 0) + ((X.getD 3 0) * 4294967296))), (3, .int .u64 ((X.getD 0 0) + ((X.getD 1 0) * 4294967296)))]) (l := [.int .u64 ((X.getD 6 0) + ((X.getD 7 0) * 4294967296)), .int .u64 ((X.getD 4 0) + ((X.getD 5 0) * 4294967296)), .int .u64 ((X.getD 2 0) + ((X.getD 3 0) * 4294967296)), .int .u64 ((X.getD 0 0) + ((X.getD 1 0) * 4294967296))]) zc25 pl25 ⟨rfl, (T rfl rfl), ⟨rfl, (T rfl rfl), ⟨rfl, (T rfl rfl), ⟨rfl, (T rfl rfl), trivial⟩⟩⟩⟩ rfl) ?_
        have H60 := (d57.ext.blk H41)
        refine aw_one 33 rfl (by kernel_rfl) .none (oe_store (v := .agg #[.int .u64 ((X.getD 6 0) + ((X.getD 7 0) * 4294967296)), .int .u64 ((X.getD 4 0) + ((X.getD 5 0) * 4294967296)), .int .u64 ((X.getD 2 0) + ((X.getD 3 0) * 4294967296)), .int .u64 ((X.getD 0 0) + ((X.getD 1 0) * 4294967296))]) (vs := [.int .u64 ((X.getD 6 0) + ((X.getD 7 0) * 4294967296)), .int .u64 ((X.getD 4 0) + ((X.getD 5 0) * 4294967296)), .int .u64 ((X.getD 2 0) + ((X.getD 3 0) * 4294967296)), .int .u64 ((X.getD 0 0) + ((X.getD 1 0) * 4294967296))]) (l := [.int .u64 ((X.getD 6 0) + ((X.getD 7 0) * 4294967296)), .int .u64 ((X.getD 4 0) + ((X.getD 5 0) * 4294967296)), .int .u64 ((X.getD 2 0) + ((X.getD 3 0) * 4294967296)), .int .u64 ((X.getD 0 0) + ((X.getD 1 0) * 4294967296))]) (T rfl f35) (T rfl rfl) sz25 rfl rfl rfl H60 rfl ?_)
        intro w61 s62 H63
        have E64 := below_st E58 N9 s62
        have H65 := (s62.blk H59 (by omega))
        refine ⟨.inr H65, ?_⟩
        refine aw_last 34 (.bool true) rfl (by kernel_rfl) .none (fun _ => dv_assign C) ?_
        refine aw_done (by kernel_rfl) ?_
        refine rk_ret Try.func86 (v := .tuple #[.agg #[.int .u64 ((X.getD 6 0) + ((X.getD 7 0) * 4294967296)), .int .u64 ((X.getD 4 0) + ((X.getD 5 0) * 4294967296)), .int .u64 ((X.getD 2 0) + ((X.getD 3 0) * 4294967296)), .int .u64 ((X.getD 0 0) + ((X.getD 1 0) * 4294967296))], .bool true]) (res2 Try.results86 (rv_cells (l := [.int .u64 ((X.getD 6 0) + ((X.getD 7 0) * 4294967296)), .int .u64 ((X.getD 4 0) + ((X.getD 5 0) * 4294967296)), .int .u64 ((X.getD 2 0) + ((X.getD 3 0) * 4294967296)), .int .u64 ((X.getD 0 0) + ((X.getD 1 0) * 4294967296))]) agt25 sz25 rfl f35 H63 rfl) (rv_tmp rfl rfl)) ⟨_, rfl, ?_⟩
        have hws := wide32 hyo hyf hyv
        have hpe := put_end hXv (by omega)
        exact ⟨tu2 (ag4 (vi (by rw [hpe 6 (by decide), hpe 7 (by decide)]; exact hws.1)) (vi (by rw [hpe 4 (by decide), hpe 5 (by decide)]; exact hws.2.1)) (vi (by rw [hpe 2 (by decide), hpe 3 (by decide)]; exact hws.2.2.1)) (vi (by rw [hpe 0 (by decide), hpe 1 (by decide)]; exact hws.2.2.2))) (vt hyf), E64⟩
    · -- JLF
      refine lw_no (d := 28) rfl rfl (congrArg Value.bool (decide_eq_false hb45)) ?_
      refine lw_no (d := 28) rfl rfl (congrArg Value.bool (decide_eq_false hb45)) ?_
      refine lw_no (d := 28) rfl rfl (congrArg Value.bool (decide_eq_false hb45)) ?_
      refine lw_no (d := 28) rfl rfl (congrArg Value.bool (decide_eq_false hb45)) ?_
      refine lw_v (.bool false) (dv_pick_f (T rfl (congrArg Value.bool (decide_eq_false hb45))) C) ?_
      refine lw_nil ?_
      refine rk_cf (T rfl rfl) ?_
      refine rk_exit rfl ?_
      refine rk_seq ?_
      refine rk_any (fun w => w.heap[b22]? = some (.cells (X.map (Value.int .u64)).toArray 22)) [34] mo ?_
      intro w66 d67
      have E68 := below_ext E39 E39.size d67.ext
      have H69 := (d67.ext.blk H42)
      refine aw_pure 0 (.slice (some ⟨b22, 0, none⟩) 8 8) rfl (by kernel_rfl) .none H69 (fun _ => dv_move (T rfl f37)) ?_
      refine aw_pure 1 (.pointer (some ⟨b22, 7, none⟩)) rfl (by kernel_rfl) .none H69 (fun _ => dv_indexO (g := b22) (l := 8) (c := 8) (i := 7) (j := 7) us67 sz22 (T rfl rfl) C (by omega) (by first | omega | (simp; done) | (simp; omega))) ?_
      refine aw_load 2 (.int .u64 (X.getD 7 0)) rfl (by kernel_rfl) .none H69 (fun _ s => dv_loadW (L := X) (v := X.getD 7 0) agt22 (T rfl rfl) s (by first | omega | (simp; done) | (simp; omega)) rfl) ?_
      refine aw_pure 3 (.int .u64 ((X.getD 7 0) * 4294967296)) rfl (by kernel_rfl) .none H69 (fun _ => dv_shl (a := X.getD 7 0) (b := 32) (z := (X.getD 7 0) * 4294967296) (T rfl rfl) C (by decide) (shl_c (m := 4294967296) (n := 32) (by decide) (wn_u64 (by omega) (by omega)))) ?_
      refine aw_pure 4 (.slice (some ⟨b22, 0, none⟩) 8 8) rfl (by kernel_rfl) .none H69 (fun _ => dv_move (T rfl f37)) ?_
      refine aw_pure 5 (.pointer (some ⟨b22, 6, none⟩)) rfl (by kernel_rfl) .none H69 (fun _ => dv_indexO (g := b22) (l := 8) (c := 8) (i := 6) (j := 6) us67 sz22 (T rfl rfl) C (by omega) (by first | omega | (simp; done) | (simp; omega))) ?_
      refine aw_load 6 (.int .u64 (X.getD 6 0)) rfl (by kernel_rfl) .none H69 (fun _ s => dv_loadW (L := X) (v := X.getD 6 0) agt22 (T rfl rfl) s (by first | omega | (simp; done) | (simp; omega)) rfl) ?_
      refine aw_pure 7 (.int .u64 ((X.getD 6 0) + ((X.getD 7 0) * 4294967296))) rfl (by kernel_rfl) .none H69 (fun _ => dv_or (a := (X.getD 7 0) * 4294967296) (b := X.getD 6 0) (z := (X.getD 6 0) + ((X.getD 7 0) * 4294967296)) (T rfl rfl) (T rfl rfl) (or_add (k := .u64) (a := X.getD 6 0) (b := (X.getD 7 0) * 4294967296) (i := 32) rfl (by omega) (by omega) (by omega) (by omega) (lt64 (by omega)) (lt64 (by omega))).2) ?_
      refine aw_pure 8 (.slice (some ⟨b22, 0, none⟩) 8 8) rfl (by kernel_rfl) .none H69 (fun _ => dv_move (T rfl f37)) ?_
      refine aw_pure 9 (.pointer (some ⟨b22, 5, none⟩)) rfl (by kernel_rfl) .none H69 (fun _ => dv_indexO (g := b22) (l := 8) (c := 8) (i := 5) (j := 5) us67 sz22 (T rfl rfl) C (by omega) (by first | omega | (simp; done) | (simp; omega))) ?_
      refine aw_load 10 (.int .u64 (X.getD 5 0)) rfl (by kernel_rfl) .none H69 (fun _ s => dv_loadW (L := X) (v := X.getD 5 0) agt22 (T rfl rfl) s (by first | omega | (simp; done) | (simp; omega)) rfl) ?_
      refine aw_pure 11 (.int .u64 ((X.getD 5 0) * 4294967296)) rfl (by kernel_rfl) .none H69 (fun _ => dv_shl (a := X.getD 5 0) (b := 32) (z := (X.getD 5 0) * 4294967296) (T rfl rfl) C (by decide) (shl_c (m := 4294967296) (n := 32) (by decide) (wn_u64 (by omega) (by omega)))) ?_
      refine aw_pure 12 (.slice (some ⟨b22, 0, none⟩) 8 8) rfl (by kernel_rfl) .none H69 (fun _ => dv_move (T rfl f37)) ?_
      refine aw_pure 13 (.pointer (some ⟨b22, 4, none⟩)) rfl (by kernel_rfl) .none H69 (fun _ => dv_indexO (g := b22) (l := 8) (c := 8) (i := 4) (j := 4) us67 sz22 (T rfl rfl) C (by omega) (by first | omega | (simp; done) | (simp; omega))) ?_
      refine aw_load 14 (.int .u64 (X.getD 4 0)) rfl (by kernel_rfl) .none H69 (fun _ s => dv_loadW (L := X) (v := X.getD 4 0) agt22 (T rfl rfl) s (by first | omega | (simp; done) | (simp; omega)) rfl) ?_
      refine aw_pure 15 (.int .u64 ((X.getD 4 0) + ((X.getD 5 0) * 4294967296))) rfl (by kernel_rfl) .none H69 (fun _ => dv_or (a := (X.getD 5 0) * 4294967296) (b := X.getD 4 0) (z := (X.getD 4 0) + ((X.getD 5 0) * 4294967296)) (T rfl rfl) (T rfl rfl) (or_add (k := .u64) (a := X.getD 4 0) (b := (X.getD 5 0) * 4294967296) (i := 32) rfl (by omega) (by omega) (by omega) (by omega) (lt64 (by omega)) (lt64 (by omega))).2) ?_
      refine aw_pure 16 (.slice (some ⟨b22, 0, none⟩) 8 8) rfl (by kernel_rfl) .none H69 (fun _ => dv_move (T rfl f37)) ?_
      refine aw_pure 17 (.pointer (some ⟨b22, 3, none⟩)) rfl (by kernel_rfl) .none H69 (fun _ => dv_indexO (g := b22) (l := 8) (c := 8) (i := 3) (j := 3) us67 sz22 (T rfl rfl) C (by omega) (by first | omega | (simp; done) | (simp; omega))) ?_
      refine aw_load 18 (.int .u64 (X.getD 3 0)) rfl (by kernel_rfl) .none H69 (fun _ s => dv_loadW (L := X) (v := X.getD 3 0) agt22 (T rfl rfl) s (by first | omega | (simp; done) | (simp; omega)) rfl) ?_
      refine aw_pure 19 (.int .u64 ((X.getD 3 0) * 4294967296)) rfl (by kernel_rfl) .none H69 (fun _ => dv_shl (a := X.getD 3 0) (b := 32) (z := (X.getD 3 0) * 4294967296) (T rfl rfl) C (by decide) (shl_c (m := 4294967296) (n := 32) (by decide) (wn_u64 (by omega) (by omega)))) ?_
      refine aw_pure 20 (.slice (some ⟨b22, 0, none⟩) 8 8) rfl (by kernel_rfl) .none H69 (fun _ => dv_move (T rfl f37)) ?_
      refine aw_pure 21 (.pointer (some ⟨b22, 2, none⟩)) rfl (by kernel_rfl) .none H69 (fun _ => dv_indexO (g := b22) (l := 8) (c := 8) (i := 2) (j := 2) us67 sz22 (T rfl rfl) C (by omega) (by first | omega | (simp; done) | (simp; omega))) ?_
      refine aw_load 22 (.int .u64 (X.getD 2 0)) rfl (by kernel_rfl) .none H69 (fun _ s => dv_loadW (L := X) (v := X.getD 2 0) agt22 (T rfl rfl) s (by first | omega | (simp; done) | (simp; omega)) rfl) ?_
      refine aw_pure 23 (.int .u64 ((X.getD 2 0) + ((X.getD 3 0) * 4294967296))) rfl (by kernel_rfl) .none H69 (fun _ => dv_or (a := (X.getD 3 0) * 4294967296) (b := X.getD 2 0) (z := (X.getD 2 0) + ((X.getD 3 0) * 4294967296)) (T rfl rfl) (T rfl rfl) (or_add (k := .u64) (a := X.getD 2 0) (b := (X.getD 3 0) * 4294967296) (i := 32) rfl (by omega) (by omega) (by omega) (by omega) (lt64 (by omega)) (lt64 (by omega))).2) ?_
      refine aw_pure 24 (.slice (some ⟨b22, 0, none⟩) 8 8) rfl (by kernel_rfl) .none H69 (fun _ => dv_move (T rfl f37)) ?_
      refine aw_pure 25 (.pointer (some ⟨b22, 1, none⟩)) rfl (by kernel_rfl) .none H69 (fun _ => dv_indexO (g := b22) (l := 8) (c := 8) (i := 1) (j := 1) us67 sz22 (T rfl rfl) C (by omega) (by first | omega | (simp; done) | (simp; omega))) ?_
      refine aw_load 26 (.int .u64 (X.getD 1 0)) rfl (by kernel_rfl) .none H69 (fun _ s => dv_loadW (L := X) (v := X.getD 1 0) agt22 (T rfl rfl) s (by first | omega | (simp; done) | (simp; omega)) rfl) ?_
      refine aw_pure 27 (.int .u64 ((X.getD 1 0) * 4294967296)) rfl (by kernel_rfl) .none H69 (fun _ => dv_shl (a := X.getD 1 0) (b := 32) (z := (X.getD 1 0) * 4294967296) (T rfl rfl) C (by decide) (shl_c (m := 4294967296) (n := 32) (by decide) (wn_u64 (by omega) (by omega)))) ?_
      refine aw_pure 28 (.slice (some ⟨b22, 0, none⟩) 8 8) rfl (by kernel_rfl) .none H69 (fun _ => dv_move (T rfl f37)) ?_
      refine aw_pure 29 (.pointer (some ⟨b22, 0, none⟩)) rfl (by kernel_rfl) .none H69 (fun _ => dv_indexO (g := b22) (l := 8) (c := 8) (i := 0) (j := 0) us67 sz22 (T rfl rfl) C (by omega) (by first | omega | (simp; done) | (simp; omega))) ?_
      refine aw_load 30 (.int .u64 (X.getD 0 0)) rfl (by kernel_rfl) .none H69 (fun _ s => dv_loadW (L := X) (v := X.getD 0 0) agt22 (T rfl rfl) s (by first | omega | (simp; done) | (simp; omega)) rfl) ?_
      refine aw_pure 31 (.int .u64 ((X.getD 0 0) + ((X.getD 1 0) * 4294967296))) rfl (by kernel_rfl) .none H69 (fun _ => dv_or (a := (X.getD 1 0) * 4294967296) (b := X.getD 0 0) (z := (X.getD 0 0) + ((X.getD 1 0) * 4294967296)) (T rfl rfl) (T rfl rfl) (or_add (k := .u64) (a := X.getD 0 0) (b := (X.getD 1 0) * 4294967296) (i := 32) rfl (by omega) (by omega) (by omega) (by omega) (lt64 (by omega)) (lt64 (by omega))).2) ?_
      refine aw_pure 32 (.agg #[.int .u64 ((X.getD 6 0) + ((X.getD 7 0) * 4294967296)), .int .u64 ((X.getD 4 0) + ((X.getD 5 0) * 4294967296)), .int .u64 ((X.getD 2 0) + ((X.getD 3 0) * 4294967296)), .int .u64 ((X.getD 0 0) + ((X.getD 1 0) * 4294967296))]) rfl (by kernel_rfl) .none H69 (fun _ => dv_build (pv := [(0, .int .u64 ((X.getD 6 0) + ((X.getD 7 0) * 4294967296))), (1, .int .u64 ((X.getD 4 0) + ((X.getD 5 0) * 4294967296))), (2, .int .u64 ((X.getD 2 0) + ((X.getD 3 0) * 4294967296))), (3, .int .u64 ((X.getD 0 0) + ((X.getD 1 0) * 4294967296)))]) (l := [.int .u64 ((X.getD 6 0) + ((X.getD 7 0) * 4294967296)), .int .u64 ((X.getD 4 0) + ((X.getD 5 0) * 4294967296)), .int .u64 ((X.getD 2 0) + ((X.getD 3 0) * 4294967296)), .int .u64 ((X.getD 0 0) + ((X.getD 1 0) * 4294967296))]) zc25 pl25 ⟨rfl, (T rfl rfl), ⟨rfl, (T rfl rfl), ⟨rfl, (T rfl rfl), ⟨rfl, (T rfl rfl), trivial⟩⟩⟩⟩ rfl) ?_
      have H70 := (d67.ext.blk H41)
      refine aw_one 33 rfl (by kernel_rfl) .none (oe_store (v := .agg #[.int .u64 ((X.getD 6 0) + ((X.getD 7 0) * 4294967296)), .int .u64 ((X.getD 4 0) + ((X.getD 5 0) * 4294967296)), .int .u64 ((X.getD 2 0) + ((X.getD 3 0) * 4294967296)), .int .u64 ((X.getD 0 0) + ((X.getD 1 0) * 4294967296))]) (vs := [.int .u64 ((X.getD 6 0) + ((X.getD 7 0) * 4294967296)), .int .u64 ((X.getD 4 0) + ((X.getD 5 0) * 4294967296)), .int .u64 ((X.getD 2 0) + ((X.getD 3 0) * 4294967296)), .int .u64 ((X.getD 0 0) + ((X.getD 1 0) * 4294967296))]) (l := [.int .u64 ((X.getD 6 0) + ((X.getD 7 0) * 4294967296)), .int .u64 ((X.getD 4 0) + ((X.getD 5 0) * 4294967296)), .int .u64 ((X.getD 2 0) + ((X.getD 3 0) * 4294967296)), .int .u64 ((X.getD 0 0) + ((X.getD 1 0) * 4294967296))]) (T rfl f35) (T rfl rfl) sz25 rfl rfl rfl H70 rfl ?_)
      intro w71 s72 H73
      have E74 := below_st E68 N9 s72
      have H75 := (s72.blk H69 (by omega))
      refine ⟨.inr H75, ?_⟩
      refine aw_last 34 (.bool true) rfl (by kernel_rfl) .none (fun _ => dv_assign C) ?_
      refine aw_done (by kernel_rfl) ?_
      refine rk_ret Try.func86 (v := .tuple #[.agg #[.int .u64 ((X.getD 6 0) + ((X.getD 7 0) * 4294967296)), .int .u64 ((X.getD 4 0) + ((X.getD 5 0) * 4294967296)), .int .u64 ((X.getD 2 0) + ((X.getD 3 0) * 4294967296)), .int .u64 ((X.getD 0 0) + ((X.getD 1 0) * 4294967296))], .bool true]) (res2 Try.results86 (rv_cells (l := [.int .u64 ((X.getD 6 0) + ((X.getD 7 0) * 4294967296)), .int .u64 ((X.getD 4 0) + ((X.getD 5 0) * 4294967296)), .int .u64 ((X.getD 2 0) + ((X.getD 3 0) * 4294967296)), .int .u64 ((X.getD 0 0) + ((X.getD 1 0) * 4294967296))]) agt25 sz25 rfl f35 H73 rfl) (rv_tmp rfl rfl)) ⟨_, rfl, ?_⟩
      have hws := wide32 hyo hyf hyv
      have hpe := put_end hXv (by omega)
      exact ⟨tu2 (ag4 (vi (by rw [hpe 6 (by decide), hpe 7 (by decide)]; exact hws.1)) (vi (by rw [hpe 4 (by decide), hpe 5 (by decide)]; exact hws.2.1)) (vi (by rw [hpe 2 (by decide), hpe 3 (by decide)]; exact hws.2.2.1)) (vi (by rw [hpe 0 (by decide), hpe 1 (by decide)]; exact hws.2.2.2))) (vt hyf), E74⟩
  · -- up to the join
    rcases Bool.eq_false_or_eq_true (na) with hb76 | hb76
    · -- T
      refine rk_ct (T rfl (congrArg Value.bool hb76)) ?_
      refine rk_seq ?_
      refine rk_seq ?_
      refine rk_reg ?_
      refine lw_v (.slice Aa la ca) (dv_move (T rfl rfl)) ?_
      refine lw_e (oe_buildSlice (pv := [(0, .int .u32 1)]) (init := [.int .u32 0]) (l := [.int .u32 1]) us60 sz115 rfl rfl zc115 (by kernel_rfl) ⟨rfl, C, trivial⟩ rfl ?_)
      intro b77 w78 n79
      have N80 : w.heap.size ≤ b77 := n79.eq ▸ E10.size
      have : b6 < b77 := n79.eq ▸ lt_of_blk n8.blk
      have E81 := below_ext E10 E10.size n79.ext
      refine lw_e (oe_callf (vs := [.slice (some ⟨b77, 0, none⟩) 1 1, .int .i64 255]) co91 (ar2 (T rfl rfl) C) (l1Left_ws (N := 255) (j := 255) (⟨[1], rfl, Nat.le_refl _, Wd.ownW n79.blk, (okW_lit (by simp <;> omega)), rfl⟩ : Ws _ _ _ _ _ _ _ _) (by first | omega | (simp; done) | (simp; omega)) (by first | omega | (simp; done) | (simp; omega)) (valB_sz (m := 32) (xs := [1]) (n := 1) (okW_lit (by simp <;> omega)) rfl) (by omega)) ?_)
      rintro _ w86 ⟨A82, n83, c84, rfl, e87, h85⟩
      have E88 := below_ext E81 E81.size e87
      have lh85 := Wc.len (by decide) h85 (left_sz (m := 255) (s := 32) rfl (valB_sz (m := 32) (xs := [1]) (n := 1) (okW_lit (by simp <;> omega)) rfl))
      have h89 := ((((ha.ext n3.ext).ext n8.ext).ext n79.ext).ext e87)
      refine lw_e (oe_callf (vs := [.slice Aa la ca, .slice A82 n83 c84]) co116 (ar2 (T rfl rfl) (T rfl rfl)) (l1CmpAbs_wc h89.wc h85 (by first | omega | (simp; done) | (simp; omega)) (by first | omega | (simp; done) | (simp; omega))) ?_)
      rintro _ w92 ⟨r90, rfl, e93, hr91⟩
      have E94 := below_ext E88 E88.size e93
      have qhr91 := cmpR.ge hr91
      have phr91 := cmpR.eq hr91
      have ohr91 := cmpR.gt hr91
      refine lw_v (.bool (decide (0 < r90))) (dv_gtr (a := r90) (b := 0) (T rfl rfl) C) ?_
      refine lw_nil ?_
      by_cases hb95 : 0 < r90
      · -- TT
        refine rk_ct (T rfl (congrArg Value.bool (decide_eq_true hb95))) ?_
        refine rk_seq ?_
        refine rk_reg ?_
        refine lw_v (.agg #[.int .u64 0, .int .u64 0, .int .u64 0, .int .u64 0]) (dv_build (pv := []) (l := [.int .u64 0, .int .u64 0, .int .u64 0, .int .u64 0]) zc25 pl25 trivial rfl) ?_
        have H96 := (e93.blk (e87.blk (n79.ext.blk n8.blk)))
        refine lw_e (oe_store (v := .agg #[.int .u64 0, .int .u64 0, .int .u64 0, .int .u64 0]) (vs := [.int .u64 0, .int .u64 0, .int .u64 0, .int .u64 0]) (l := [.int .u64 0, .int .u64 0, .int .u64 0, .int .u64 0]) (T rfl rfl) (T rfl rfl) sz25 rfl rfl rfl H96 rfl ?_)
        intro w97 s98 H99
        have E100 := below_st E94 N9 s98
        refine lw_v (.bool false) (dv_assign C) ?_
        refine lw_nil ?_
        refine rk_ret Try.func86 (v := .tuple #[.agg #[.int .u64 0, .int .u64 0, .int .u64 0, .int .u64 0], .bool false]) (res2 Try.results86 (rv_cells (l := [.int .u64 0, .int .u64 0, .int .u64 0, .int .u64 0]) agt25 sz25 rfl rfl H99 rfl) (rv_tmp rfl rfl)) ⟨_, rfl, ?_⟩
        have hno := wide_no32 (x := x) (by unfold fits; have := hn.1 (by assumption); omega)
        exact ⟨tu2 (ag4 (vi hno.2.1.symm) (vi hno.2.2.1.symm) (vi hno.2.2.2.1.symm) (vi hno.2.2.2.2.symm)) (vf hno.1), E100⟩
      · -- TF
        refine rk_cf (T rfl (congrArg Value.bool (decide_eq_false hb95))) ?_
        refine rk_skip ?_
        refine rk_reg ?_
        refine lw_e (oe_buildSlice (pv := [(0, .int .u32 1)]) (init := [.int .u32 0]) (l := [.int .u32 1]) us60 sz115 rfl rfl zc115 (by kernel_rfl) ⟨rfl, C, trivial⟩ rfl ?_)
        intro b101 w102 n103
        have N104 : w.heap.size ≤ b101 := n103.eq ▸ E94.size
        have H105 := (e93.blk (e87.blk n79.blk))
        have : b77 < b101 := n103.eq ▸ lt_of_blk H105
        have E106 := below_ext E94 E94.size n103.ext
        refine lw_e (oe_callf (vs := [.slice (some ⟨b101, 0, none⟩) 1 1, .int .i64 256]) co91 (ar2 (T rfl rfl) C) (l1Left_ws (N := 256) (j := 256) (⟨[1], rfl, Nat.le_refl _, Wd.ownW n103.blk, (okW_lit (by simp <;> omega)), rfl⟩ : Ws _ _ _ _ _ _ _ _) (by first | omega | (simp; done) | (simp; omega)) (by first | omega | (simp; done) | (simp; omega)) (valB_sz (m := 32) (xs := [1]) (n := 1) (okW_lit (by simp <;> omega)) rfl) (by omega)) ?_)
        rintro _ w111 ⟨A107, n108, c109, rfl, e112, h110⟩
        have E113 := below_ext E106 E106.size e112
        have lh110 := Wc.len (by decide) h110 (left_sz (m := 256) (s := 32) rfl (valB_sz (m := 32) (xs := [1]) (n := 1) (okW_lit (by simp <;> omega)) rfl))
        refine lw_v (.slice Aa la ca) (dv_move (T rfl rfl)) ?_
        have h114 := (((h89.ext e93).ext n103.ext).ext e112)
        refine lw_e (oe_callf (vs := [.slice A107 n108 c109, .slice Aa la ca]) co90 (ar2 (T rfl rfl) (T rfl rfl)) (l1SubAbs_ws h110.ws h114.wc.ws (by first | omega | (simp; done) | (simp; omega)) (by first | omega | (simp; done) | (simp; omega)) (by exact len_le32 h110 h114.wc (by omega)) (by omega)) ?_)
        rintro _ w119 ⟨A115, n116, c117, rfl, e120, h118, hnh118⟩
        have E121 := below_ext E113 E113.size e120
        refine lw_v (.slice A115 n116 c117) (dv_assign (T rfl rfl)) ?_
        refine lw_nil ?_
        obtain ⟨ys122, hl123, hc124, hw125, ho126, hv127⟩ := h118
        have hsg : x < 0 := by exact hn.1 (by assumption)
        have H128 := (e120.blk (e112.blk (n103.ext.blk (e93.blk (e87.blk (n79.ext.blk H11))))))
        have H129 := (e120.blk (e112.blk (n103.ext.blk (e93.blk (e87.blk (n79.ext.blk n8.blk))))))
        exact hj14 _ _ ⟨ys122, A115, n116, c117, rfl, rfl, E121, H128, H129, hw125, hl123, ho126, (by omega), (by unfold fits; omega), (by omega)⟩
    · -- F
      refine rk_cf (T rfl (congrArg Value.bool hb76)) ?_
      refine rk_seq ?_
      refine rk_reg ?_
      refine lw_v (.slice Aa la ca) (dv_move (T rfl rfl)) ?_
      have h130 := ((ha.ext n3.ext).ext n8.ext)
      refine lw_e (oe_callf (vs := [.slice Aa la ca]) co106 (ar1 (T rfl rfl)) (l1Bits_wc h130.wc (by first | omega | (simp; done) | (simp; omega))) ?_)
      rintro _ w131 ⟨rfl, e132⟩
      have E133 := below_ext E10 E10.size e132
      refine lw_v (.bool (decide (255 < ((nbits ((x.natAbs : Int)).toNat : Int))))) (dv_gtr (a := (nbits ((x.natAbs : Int)).toNat : Int)) (b := 255) (T rfl rfl) C) ?_
      refine lw_nil ?_
      by_cases hb134 : 255 < ((nbits ((x.natAbs : Int)).toNat : Int))
      · -- FT
        refine rk_ct (T rfl (congrArg Value.bool (decide_eq_true hb134))) ?_
        refine rk_seq ?_
        refine rk_reg ?_
        refine lw_v (.agg #[.int .u64 0, .int .u64 0, .int .u64 0, .int .u64 0]) (dv_build (pv := []) (l := [.int .u64 0, .int .u64 0, .int .u64 0, .int .u64 0]) zc25 pl25 trivial rfl) ?_
        have H135 := (e132.blk n8.blk)
        refine lw_e (oe_store (v := .agg #[.int .u64 0, .int .u64 0, .int .u64 0, .int .u64 0]) (vs := [.int .u64 0, .int .u64 0, .int .u64 0, .int .u64 0]) (l := [.int .u64 0, .int .u64 0, .int .u64 0, .int .u64 0]) (T rfl rfl) (T rfl rfl) sz25 rfl rfl rfl H135 rfl ?_)
        intro w136 s137 H138
        have E139 := below_st E133 N9 s137
        refine lw_v (.bool false) (dv_assign C) ?_
        refine lw_nil ?_
        refine rk_ret Try.func86 (v := .tuple #[.agg #[.int .u64 0, .int .u64 0, .int .u64 0, .int .u64 0], .bool false]) (res2 Try.results86 (rv_cells (l := [.int .u64 0, .int .u64 0, .int .u64 0, .int .u64 0]) agt25 sz25 rfl rfl H138 rfl) (rv_tmp rfl rfl)) ⟨_, rfl, ?_⟩
        have hno := wide_no32 (x := x) (by unfold fits; have := hn2 (by assumption); omega)
        exact ⟨tu2 (ag4 (vi hno.2.1.symm) (vi hno.2.2.1.symm) (vi hno.2.2.2.1.symm) (vi hno.2.2.2.2.symm)) (vf hno.1), E139⟩
      · -- FF
        refine rk_cf (T rfl (congrArg Value.bool (decide_eq_false hb134))) ?_
        refine rk_skip ?_
        have h140 := (h130.ext e132)
        obtain ⟨ys141, hl142, hc143, hw144, ho145, hv146⟩ := h140.wc.ws
        have hsg : ¬ x < 0 := by exact hn2 (by assumption)
        have H147 := (e132.blk H11)
        have H148 := (e132.blk n8.blk)
        exact hj14 _ _ ⟨ys141, Aa, la, ca, rfl, rfl, E133, H147, H148, hw144, hl142, ho145, (by omega), (by unfold fits; omega), (by omega)⟩

end Go.Proofs.Ytpnjkjahfklfnaa.W
