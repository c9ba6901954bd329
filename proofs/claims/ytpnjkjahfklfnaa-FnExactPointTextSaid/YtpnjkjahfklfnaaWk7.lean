/- Wk7: walks, written by a program of this session. -/
import Derived.Test.YtpnjkjahfklfnaaWk6
import Derived.Test.YtpnjkjahfklfnaaMa5
set_option linter.unusedVariables false
set_option linter.unusedSimpArgs false
namespace Go.Proofs.Ytpnjkjahfklfnaa.W
open Go Go.RowKit Go.Proofs.Ytpnjkjahfklfnaa.Fw
attribute [local irreducible] RunK LW AW DV OE Ct
theorem agt25 : aggB Try.prog 25 = some true := by kernel_rfl
theorem co110 : callOk Try.prog 110 = true := by kernel_rfl
theorem co74 : callOk Try.prog 74 = true := by kernel_rfl
theorem co77 : callOk Try.prog 77 = true := by kernel_rfl
theorem pl25 : placesB Try.prog 25 = some [(0, 1), (1, 1), (2, 1), (3, 1)] := by kernel_rfl
theorem sz25 : sizeB Try.prog 25 = some 4 := by kernel_rfl
theorem ui3 : Try.prog.underlying 3 = some (.int .i64) := by kernel_rfl
theorem zc25 : zcB Try.prog 25 = some [.int .u64 0, .int .u64 0, .int .u64 0, .int .u64 0] := by kernel_rfl
theorem ze25 : zeroB Try.prog 25 = some #[.int .u64 0, .int .u64 0, .int .u64 0, .int .u64 0] := by kernel_rfl
theorem clone_ok {w : World} {A : Option Addr} {l c : Nat} {xs : List Int} (hx : Wd w 22 .u64 A xs) (hl : xs.length = l) (hL : l ≤ 1000000) : Ct Try.prog 110 [.slice A l c] w fun v w1 => ∃ A' c', v = .slice A' xs.length c' ∧ Ext w w1 ∧ Ow w1 w.heap.size 22 .u64 A' c' xs := by
  unfold Ct
  rcases hx with ⟨rfl, rfl⟩ | ⟨g, o, cs, fz, rfl, hg, hc⟩
  · refine Calls.mono (Try.slices_Clone_nil l c w) fun e w' ⟨he, hw⟩ => ⟨_, he, none, 0, rfl, by subst hw; exact Below.refl _ _, ⟨⟨rfl, .inl ⟨rfl, rfl⟩⟩, by subst hw; exact Nat.le_refl _⟩⟩
  · obtain ⟨i0, hi0, hi⟩ : ∃ i0, Try.prog.info? 22 = some i0 ∧ (i0.zero, i0.size, i0.bytes) = (some (.int .u64 0), 1, 8) := by
      have h := in22
      cases hi : Try.prog.info? 22 with
      | none => rw [hi] at h; cases h
      | some i0 => rw [hi] at h; exact ⟨i0, rfl, by simpa using h⟩
    simp only [Prod.mk.injEq] at hi
    refine Calls.mono (Try.slices_Clone i0 _ 1 8 hi0 hi.1 hi.2.1 hi.2.2 rfl (by decide) (fun w => Fw.run_sizeOf sz22) g o l c (xs.map (Value.int .u64)) w (by simp [hl]) (by simp only [maxLen]; omega) (by omega) (fun j u hj => ?_) (ints_oneCell .u64 xs)) fun e w' ⟨v', he, ho, hne, hb⟩ => ?_
    · rw [List.getElem?_map] at hj
      cases hx : xs[j]? with
      | none => rw [hx] at hj; cases hj
      | some x =>
        rw [hx] at hj
        have := hc j x hx
        rw [cell_of_row w g (o + j) cs 22 fz hg, this]
        exact hj
    · subst hl
      obtain ⟨A', c', rfl⟩ := own_slice ho
      exact ⟨_, he, A', c', rfl, hb, ho, hb.size⟩
set_option maxHeartbeats 1000000 in
theorem nwide_ok {w : World} {na : Bool} {Aa : Option Addr} {la ca : Nat} {x : Int} {sx : Nat} (ha : Num 64 22 .u64 w na Aa la ca x sx) (hs : sx ≤ 400000) : Ct Try.prog 96 [.agg #[.bool na, .slice Aa la ca]] w fun v w1 => v = .tuple #[.agg #[.int .u64 (wv3 x), .int .u64 (wv2 x), .int .u64 (wv1 x), .int .u64 (wv0 x)], .bool (decide (fits x))] ∧ Ext w w1 := by
  refine ct_run (n := 50) Try.func96 rfl Try.ntmps96 rfl ?_
  have E0 : Below w.heap.size w w := Below.refl _ _
  have lha := Num.len (by decide) ha
  refine rk_seq ?_
  refine rk_reg ?_
  refine lw_e (oe_box (v := .agg #[.bool na, .slice Aa la ca]) (cs := #[.bool na, .slice Aa la ca]) (T rfl rfl) rfl ?_)
  intro b1 w2 n3
  have N4 : w.heap.size ≤ b1 := n3.eq ▸ E0.size
  have E5 := below_ext E0 E0.size n3.ext
  refine lw_e (oe_alloc ze25 ?_)
  intro b6 w7 n8
  have N9 : w.heap.size ≤ b6 := n8.eq ▸ E5.size
  have : b1 < b6 := n8.eq ▸ lt_of_blk n3.blk
  have E10 := below_ext E5 E5.size n8.ext
  refine lw_v (.bool false) (dv_assign C) ?_
  refine lw_nil ?_
  refine rk_seq ?_
  refine rk_reg ?_
  have H11 := (n8.ext.blk n3.blk)
  refine lw_v (.agg #[.bool na, .slice Aa la ca]) (dv_loads (l := [.bool na, .slice Aa la ca]) agt69 sz69 (T rfl rfl) H11 rfl) ?_
  refine lw_e (oe_alloc ze69 ?_)
  intro b12 w13 n14
  have N15 : w.heap.size ≤ b12 := n14.eq ▸ E10.size
  have : b6 < b12 := n14.eq ▸ lt_of_blk n8.blk
  have E16 := below_ext E10 E10.size n14.ext
  refine lw_e (oe_store (v := .agg #[.bool na, .slice Aa la ca]) (vs := [.bool na, .slice Aa la ca]) (l := [.bool na, .slice Aa la ca]) (T rfl rfl) (T rfl rfl) sz69 rfl rfl rfl n14.blk rfl ?_)
  intro w17 s18 H19
  have E20 := below_st E16 N15 s18
  refine lw_nil ?_
  refine rk_seq ?_
  refine rk_seq ?_
  refine rk_reg ?_
  refine lw_v (.pointer (some ⟨b1, 0, none⟩)) (dv_fieldAddr (a := ⟨b1, 0, none⟩) (a' := ⟨b1, 0, none⟩) fo69_0 (T rfl rfl) rfl) ?_
  have H21 := (s18.blk (n14.ext.blk H11) (by omega))
  refine lw_v (.bool na) (dv_load1 (b := b1) (o := 0) agt4 (T rfl rfl) H21 rfl) ?_
  refine lw_nil ?_
  rcases Bool.eq_false_or_eq_true (na) with hb22 | hb22
  · -- T
    refine rk_ct (T rfl (congrArg Value.bool hb22)) ?_
    refine rk_any (fun w => w.heap[b1]? = some (.cells #[.bool na, .slice Aa la ca] 69)) [3] mo ?_
    intro w23 d24
    have E25 := below_ext E20 E20.size d24.ext
    have H26 := (d24.ext.blk H21)
    refine aw_load 0 (.agg #[.bool na, .slice Aa la ca]) rfl (by kernel_rfl) .none H26 (fun _ s => dv_loads (l := [.bool na, .slice Aa la ca]) agt69 sz69 (T rfl rfl) s rfl) ?_
    refine aw_one 1 rfl (by kernel_rfl) .none (oe_callf (vs := [.int .i64 1]) co77 (ar1 C) (whole_ok  (by omega)) ?_)
    rintro _ w32 ⟨nr27, A28, n29, c30, rfl, e33, h31⟩
    have E34 := below_ext E25 E25.size e33
    have lh31 := Num.len (by decide) h31
    have H35 := (e33.blk H26)
    refine ⟨.inr H35, ?_⟩
    have h36 := ha.ext E34
    refine aw_one 2 rfl (by kernel_rfl) .none (oe_callf (vs := [.agg #[.bool na, .slice Aa la ca], .agg #[.bool nr27, .slice A28 n29 c30]]) co100 (ar2 (T rfl rfl) (T rfl rfl)) (plus_ok h36 h31 (by first | decide | omega) (by first | decide | omega)) ?_)
    rintro _ w42 ⟨nr37, A38, n39, c40, rfl, e43, h41⟩
    have E44 := below_ext E34 E34.size e43
    have lh41 := Num.len (by decide) h41
    have H45 := (e43.blk H35)
    refine ⟨.inr H45, ?_⟩
    have H46 := (e43.blk (e33.blk (d24.ext.blk H19)))
    refine aw_one 3 rfl (by kernel_rfl) .none (oe_store (v := .agg #[.bool nr37, .slice A38 n39 c40]) (vs := [.bool nr37, .slice A38 n39 c40]) (l := [.bool nr37, .slice A38 n39 c40]) (T rfl rfl) (T rfl rfl) sz69 rfl rfl rfl H46 rfl ?_)
    intro w47 s48 H49
    have E50 := below_st E44 N15 s48
    refine ⟨.inl rfl, ?_⟩
    refine aw_done (by kernel_rfl) ?_
    refine rk_seq ?_
    refine rk_seq ?_
    refine rk_reg ?_
    refine lw_v (.agg #[.bool nr37, .slice A38 n39 c40]) (dv_loads (l := [.bool nr37, .slice A38 n39 c40]) agt69 sz69 (T rfl rfl) H49 rfl) ?_
    have h51 := (h41.st s48 H46 (by decide))
    refine lw_e (oe_callf (vs := [.agg #[.bool nr37, .slice A38 n39 c40]]) co74 (ar1 (T rfl rfl)) (nsize_num h51 (by first | omega | (simp; done) | (simp; omega))) ?_)
    rintro _ w52 ⟨rfl, e53⟩
    have E54 := below_ext E50 E50.size e53
    refine lw_v (.bool (decide (255 < ((nbits (x + 1).natAbs : Int))))) (dv_gtr (a := (nbits (x + 1).natAbs : Int)) (b := 255) (T rfl rfl) C) ?_
    refine lw_nil ?_
    by_cases hb55 : 255 < ((nbits (x + 1).natAbs : Int))
    · -- TT
      refine rk_ct (T rfl (congrArg Value.bool (decide_eq_true hb55))) ?_
      refine rk_seq ?_
      refine rk_reg ?_
      refine lw_v (.agg #[.int .u64 0, .int .u64 0, .int .u64 0, .int .u64 0]) (dv_build (pv := []) (l := [.int .u64 0, .int .u64 0, .int .u64 0, .int .u64 0]) zc25 pl25 trivial rfl) ?_
      have H56 := (e53.blk (s48.blk (e43.blk (e33.blk (d24.ext.blk (s18.blk (n14.ext.blk n8.blk) (by omega))))) (by omega)))
      refine lw_e (oe_store (v := .agg #[.int .u64 0, .int .u64 0, .int .u64 0, .int .u64 0]) (vs := [.int .u64 0, .int .u64 0, .int .u64 0, .int .u64 0]) (l := [.int .u64 0, .int .u64 0, .int .u64 0, .int .u64 0]) (T rfl rfl) (T rfl rfl) sz25 rfl rfl rfl H56 rfl ?_)
      intro w57 s58 H59
      have E60 := below_st E54 N9 s58
      refine lw_v (.bool false) (dv_assign C) ?_
      refine lw_nil ?_
      refine rk_ret Try.func96 (v := .tuple #[.agg #[.int .u64 0, .int .u64 0, .int .u64 0, .int .u64 0], .bool false]) (res2 Try.results96 (rv_cells (l := [.int .u64 0, .int .u64 0, .int .u64 0, .int .u64 0]) agt25 sz25 rfl rfl H59 rfl) (rv_tmp rfl rfl)) ⟨_, rfl, ?_⟩
      have hno := wide_no (x := x) (by have := ha.neg_iff; first | (left; refine ⟨by simp_all, ?_⟩; omega) | (right; refine ⟨by by_cases hz : x < 0 <;> simp_all <;> omega, ?_⟩; omega))
      exact ⟨tu2 (ag4 (vi hno.2.1.symm) (vi hno.2.2.1.symm) (vi hno.2.2.2.1.symm) (vi hno.2.2.2.2.symm)) (vf hno.1), E60⟩
    · -- TF
      refine rk_cf (T rfl (congrArg Value.bool (decide_eq_false hb55))) ?_
      refine rk_skip ?_
      refine rk_seq ?_
      refine rk_reg ?_
      refine lw_v (.pointer (some ⟨b12, 1, none⟩)) (dv_fieldAddr (a := ⟨b12, 0, none⟩) (a' := ⟨b12, 1, none⟩) fo69_1 (T rfl rfl) rfl) ?_
      have H61 := (e53.blk H49)
      refine lw_v (.slice A38 n39 c40) (dv_load1 (b := b12) (o := 1) agt67 (T rfl rfl) H61 rfl) ?_
      have h62 := (h51.ext e53)
      obtain ⟨xs63, hl64, hc65, hw66, ho67, hk68, hv69⟩ := h62.wc
      have H70 := (e53.blk (s48.blk H45 (by omega)))
      have : b1 < w52.heap.size := lt_of_blk H70
      have H71 := (e53.blk (s48.blk (e43.blk (e33.blk (d24.ext.blk (s18.blk (n14.ext.blk n8.blk) (by omega))))) (by omega)))
      have : b6 < w52.heap.size := lt_of_blk H71
      have : b12 < w52.heap.size := lt_of_blk H61
      have N72 : w.heap.size ≤ w52.heap.size := E54.size
      refine lw_e (oe_callf (vs := [.slice A38 n39 c40]) co110 (ar1 (T rfl rfl)) (clone_ok hw66 hl64 (by first | omega | (simp; done) | (simp; omega))) ?_)
      rintro _ w76 ⟨Ad73, c74, rfl, e77, hO75⟩
      have E78 := below_ext E54 E54.size e77
      refine lw_e (oe_append0 (base := w52.heap.size) (L := xs63) (m := 4) (j := 4) us67 ui3 in22 (T rfl rfl) C rfl (by decide) (by decide) hO75 (by first | omega | (simp; done) | (simp; omega)) ?_)
      intro Ad79 c80 w81 hO82 x83
      have E84 := below_bl E78 N72 x83
      refine lw_v (.slice Ad79 ((xs63 ++ List.replicate 4 (0 : Int)).length) c80) (dv_assign (T rfl rfl)) ?_
      refine lw_nil ?_
      refine rk_seq ?_
      refine rk_seq ?_
      refine rk_reg ?_
      refine lw_v (.pointer (some ⟨b1, 0, none⟩)) (dv_fieldAddr (a := ⟨b1, 0, none⟩) (a' := ⟨b1, 0, none⟩) fo69_0 (T rfl rfl) rfl) ?_
      have H85 := (bl_blk x83 (e77.blk H70) (by omega))
      refine lw_v (.bool na) (dv_load1 (b := b1) (o := 0) agt4 (T rfl rfl) H85 rfl) ?_
      refine lw_nil ?_
      refine rk_ct (T rfl (congrArg Value.bool hb22)) ?_
      refine rk_seq ?_
      refine rk_reg ?_
      refine lw_v (.slice Ad79 ((xs63 ++ List.replicate 4 (0 : Int)).length) c80) (dv_move (T rfl rfl)) ?_
      refine lw_v (.int .i64 (((xs63 ++ List.replicate 4 (0 : Int)).length : Int))) (dv_len (ad := Ad79) (l := (xs63 ++ List.replicate 4 (0 : Int)).length) (c := c80) us67 (T rfl rfl)) ?_
      refine lw_v (.int .i64 0) (dv_move C) ?_
      refine lw_nil ?_
      refine rk_block ?_
      have H86 := (bl_blk x83 (e77.blk H71) (by omega))
      have H87 := (bl_blk x83 (e77.blk H61) (by omega))
      refine rk_loop (fun dm_ fr wl => ∃ (i : Nat) (L : List Int), dm_ = (xs63 ++ List.replicate 4 (0 : Int)).length - i ∧ fr 2 = .pointer (some ⟨b6, 0, none⟩) ∧ fr 3 = .bool false ∧ fr 5 = .slice Ad79 ((xs63 ++ List.replicate 4 (0 : Int)).length) c80 ∧ fr 24 = .int .i64 (((xs63 ++ List.replicate 4 (0 : Int)).length : Int)) ∧ fr 25 = .int .i64 ((i : Int)) ∧ Below w.heap.size w wl ∧ wl.heap[b1]? = some (.cells #[.bool na, .slice Aa la ca] 69) ∧ wl.heap[b6]? = some (.cells #[.int .u64 0, .int .u64 0, .int .u64 0, .int .u64 0] 25) ∧ wl.heap[b12]? = some (.cells #[.bool nr37, .slice A38 n39 c40] 69) ∧ Ow wl w52.heap.size 22 .u64 Ad79 c80 L ∧ (i ≤ (xs63 ++ List.replicate 4 (0 : Int)).length) ∧ (L.length = (xs63 ++ List.replicate 4 (0 : Int)).length) ∧ (∀ j, j < (xs63 ++ List.replicate 4 (0 : Int)).length → L.getD j 0 = if j < i then 18446744073709551615 - (xs63 ++ List.replicate 4 (0 : Int)).getD j 0 else (xs63 ++ List.replicate 4 (0 : Int)).getD j 0)) ((xs63 ++ List.replicate 4 (0 : Int)).length - 0) ⟨0, (xs63 ++ List.replicate 4 (0 : Int)), rfl, rfl, rfl, rfl, rfl, rfl, E84, H85, H86, H87, hO82, (Nat.zero_le _), rfl, (fun j hj => by rw [if_neg (by omega)])⟩ ?_
      intro d92 fr91 w88 hI89 ih90
      obtain ⟨i, L, hd103, f93, f94, f95, f96, f97, E98, H99, H100, H101, h102, hi, hln, hpt⟩ := hI89
      have bz : (xs63 ++ List.replicate 4 (0 : Int)).length = xs63.length + 4 := by simp
      have bh := hpt i
      have bo := okW.getD (okW.append ho67 (okW.replicate (by decide) 4)) (by decide) i
      have be : i < (xs63 ++ List.replicate 4 (0 : Int)).length → L.getD i 0 = (xs63 ++ List.replicate 4 (0 : Int)).getD i 0 := fun h => by rw [bh h, if_neg (by omega)]
      refine rk_seq ?_
      refine rk_reg ?_
      refine lw_v (.bool (decide (((i : Int)) < (((xs63 ++ List.replicate 4 (0 : Int)).length : Int))))) (dv_lss (a := (i : Int)) (b := ((xs63 ++ List.replicate 4 (0 : Int)).length : Int)) (T rfl f97) (T rfl f96)) ?_
      refine lw_nil ?_
      refine rk_seq ?_
      by_cases hb104 : ((i : Int)) < (((xs63 ++ List.replicate 4 (0 : Int)).length : Int))
      · -- TFLT
        refine rk_ct (T rfl (congrArg Value.bool (decide_eq_true hb104))) ?_
        refine rk_skip ?_
        refine rk_seq ?_
        refine rk_block ?_
        refine rk_seq ?_
        refine rk_reg ?_
        refine lw_v (.int .i64 ((i : Int))) (dv_move (T rfl f97)) ?_
        refine lw_v (.int .i64 ((i : Int))) (dv_assign (T rfl rfl)) ?_
        refine lw_nil ?_
        refine rk_reg ?_
        refine lw_v (.slice Ad79 ((xs63 ++ List.replicate 4 (0 : Int)).length) c80) (dv_move (T rfl f95)) ?_
        refine lw_v (.int .i64 ((i : Int))) (dv_move (T rfl rfl)) ?_
        refine lw_v (.slice Ad79 ((xs63 ++ List.replicate 4 (0 : Int)).length) c80) (dv_move (T rfl f95)) ?_
        refine lw_v (.int .i64 ((i : Int))) (dv_move (T rfl rfl)) ?_
        obtain ⟨g105, o106, rfl⟩ := Wd.at h102.wd (by first | omega | (simp; done) | (simp; omega))
        refine lw_v (.pointer (some ⟨g105, o106 + i, none⟩)) (dv_indexW (g := g105) (o := o106) (l := (xs63 ++ List.replicate 4 (0 : Int)).length) (c := c80) (i := i) (j := (i : Int)) us67 sz22 (T rfl rfl) (T rfl rfl) (by omega) (by first | omega | (simp; done) | (simp; omega))) ?_
        refine lw_v (.int .u64 (L.getD i 0)) (dv_load agt22 (T rfl rfl) (Wd.cell h102.wd (by first | omega | (simp; done) | (simp; omega)))) ?_
        refine lw_v (.int .u64 (18446744073709551615 - (L.getD i 0))) (dv_xor (a := L.getD i 0) (z := 18446744073709551615 - (L.getD i 0)) (T rfl rfl) (xor_u64 (by omega) (by omega))) ?_
        refine lw_v (.pointer (some ⟨g105, o106 + i, none⟩)) (dv_indexW (g := g105) (o := o106) (l := (xs63 ++ List.replicate 4 (0 : Int)).length) (c := c80) (i := i) (j := (i : Int)) us67 sz22 (T rfl rfl) (T rfl rfl) (by omega) (by first | omega | (simp; done) | (simp; omega))) ?_
        refine lw_e (oe_storeOw (base := w52.heap.size) (L := L) (g := g105) (o := o106) (i := i) (z := 18446744073709551615 - (L.getD i 0)) sz22 (T rfl rfl) (T rfl rfl) h102 (by first | omega | (simp; done) | (simp; omega)) ?_)
        intro w107 hO108 x109
        have E110 := below_bl E98 N72 x109
        refine lw_nil ?_
        refine rk_inBlock ?_
        refine rk_reg ?_
        refine lw_v (.int .i64 (((i : Int)) + 1)) (dv_add (a := (i : Int)) (b := 1) (z := ((i : Int)) + 1) (T rfl f97) C (wr_i64 (by omega) (by omega))) ?_
        refine lw_v (.int .i64 (((i : Int)) + 1)) (dv_move (T rfl rfl)) ?_
        refine lw_nil ?_
        have H111 := (bl_blk x109 H99 (by omega))
        have H112 := (bl_blk x109 H100 (by omega))
        have H113 := (bl_blk x109 H101 (by omega))
        exact ih90 ((xs63 ++ List.replicate 4 (0 : Int)).length - ((i + 1))) _ _ (by rw [hd103]; omega) ⟨(i + 1), (L.set i (18446744073709551615 - (L.getD i 0))), rfl, f93, f94, f95, f96, rfl, E110, H111, H112, H113, hO108, (by omega), (by simp [hln]), (comp_step (by omega) hln hpt)⟩
      · -- TFLF
        refine rk_cf (T rfl (congrArg Value.bool (decide_eq_false hb104))) ?_
        refine rk_exit rfl ?_
        refine rk_seq ?_
        refine rk_any (fun w => Wd w 22 .u64 Ad79 L) [14] mo ?_
        intro w114 d115
        have E116 := below_ext E98 E98.size d115.ext
        have h117 := (h102.ext d115.ext)
        refine aw_pure 0 (.slice Ad79 ((xs63 ++ List.replicate 4 (0 : Int)).length) c80) rfl (by kernel_rfl) .none h117.wd (fun _ => dv_move (T rfl f95)) ?_
        obtain ⟨g118, o119, rfl⟩ := Wd.at h117.wd (by first | omega | (simp; done) | (simp; omega))
        refine aw_pure 1 (.pointer (some ⟨g118, o119 + 3, none⟩)) rfl (by kernel_rfl) .none h117.wd (fun _ => dv_indexW (g := g118) (o := o119) (l := (xs63 ++ List.replicate 4 (0 : Int)).length) (c := c80) (i := 3) (j := 3) us67 sz22 (T rfl rfl) C (by omega) (by first | omega | (simp; done) | (simp; omega))) ?_
        refine aw_load 2 (.int .u64 (L.getD 3 0)) rfl (by kernel_rfl) .none h117.wd (fun _ s => dv_load agt22 (T rfl rfl) (Wd.cell s (by first | omega | (simp; done) | (simp; omega)))) ?_
        refine aw_pure 3 (.slice (some ⟨g118, o119, none⟩) ((xs63 ++ List.replicate 4 (0 : Int)).length) c80) rfl (by kernel_rfl) .none h117.wd (fun _ => dv_move (T rfl f95)) ?_
        refine aw_pure 4 (.pointer (some ⟨g118, o119 + 2, none⟩)) rfl (by kernel_rfl) .none h117.wd (fun _ => dv_indexW (g := g118) (o := o119) (l := (xs63 ++ List.replicate 4 (0 : Int)).length) (c := c80) (i := 2) (j := 2) us67 sz22 (T rfl rfl) C (by omega) (by first | omega | (simp; done) | (simp; omega))) ?_
        refine aw_load 5 (.int .u64 (L.getD 2 0)) rfl (by kernel_rfl) .none h117.wd (fun _ s => dv_load agt22 (T rfl rfl) (Wd.cell s (by first | omega | (simp; done) | (simp; omega)))) ?_
        refine aw_pure 6 (.slice (some ⟨g118, o119, none⟩) ((xs63 ++ List.replicate 4 (0 : Int)).length) c80) rfl (by kernel_rfl) .none h117.wd (fun _ => dv_move (T rfl f95)) ?_
        refine aw_pure 7 (.pointer (some ⟨g118, o119 + 1, none⟩)) rfl (by kernel_rfl) .none h117.wd (fun _ => dv_indexW (g := g118) (o := o119) (l := (xs63 ++ List.replicate 4 (0 : Int)).length) (c := c80) (i := 1) (j := 1) us67 sz22 (T rfl rfl) C (by omega) (by first | omega | (simp; done) | (simp; omega))) ?_
        refine aw_load 8 (.int .u64 (L.getD 1 0)) rfl (by kernel_rfl) .none h117.wd (fun _ s => dv_load agt22 (T rfl rfl) (Wd.cell s (by first | omega | (simp; done) | (simp; omega)))) ?_
        refine aw_pure 9 (.slice (some ⟨g118, o119, none⟩) ((xs63 ++ List.replicate 4 (0 : Int)).length) c80) rfl (by kernel_rfl) .none h117.wd (fun _ => dv_move (T rfl f95)) ?_
        refine aw_pure 10 (.pointer (some ⟨g118, o119 + 0, none⟩)) rfl (by kernel_rfl) .none h117.wd (fun _ => dv_indexW (g := g118) (o := o119) (l := (xs63 ++ List.replicate 4 (0 : Int)).length) (c := c80) (i := 0) (j := 0) us67 sz22 (T rfl rfl) C (by omega) (by first | omega | (simp; done) | (simp; omega))) ?_
        refine aw_load 11 (.int .u64 (L.getD 0 0)) rfl (by kernel_rfl) .none h117.wd (fun _ s => dv_load agt22 (T rfl rfl) (Wd.cell s (by first | omega | (simp; done) | (simp; omega)))) ?_
        refine aw_pure 12 (.agg #[.int .u64 (L.getD 3 0), .int .u64 (L.getD 2 0), .int .u64 (L.getD 1 0), .int .u64 (L.getD 0 0)]) rfl (by kernel_rfl) .none h117.wd (fun _ => dv_build (pv := [(0, .int .u64 (L.getD 3 0)), (1, .int .u64 (L.getD 2 0)), (2, .int .u64 (L.getD 1 0)), (3, .int .u64 (L.getD 0 0))]) (l := [.int .u64 (L.getD 3 0), .int .u64 (L.getD 2 0), .int .u64 (L.getD 1 0), .int .u64 (L.getD 0 0)]) zc25 pl25 ⟨rfl, (T rfl rfl), ⟨rfl, (T rfl rfl), ⟨rfl, (T rfl rfl), ⟨rfl, (T rfl rfl), trivial⟩⟩⟩⟩ rfl) ?_
        have H120 := (d115.ext.blk H100)
        refine aw_one 13 rfl (by kernel_rfl) .none (oe_store (v := .agg #[.int .u64 (L.getD 3 0), .int .u64 (L.getD 2 0), .int .u64 (L.getD 1 0), .int .u64 (L.getD 0 0)]) (vs := [.int .u64 (L.getD 3 0), .int .u64 (L.getD 2 0), .int .u64 (L.getD 1 0), .int .u64 (L.getD 0 0)]) (l := [.int .u64 (L.getD 3 0), .int .u64 (L.getD 2 0), .int .u64 (L.getD 1 0), .int .u64 (L.getD 0 0)]) (T rfl f93) (T rfl rfl) sz25 rfl rfl rfl H120 rfl ?_)
        intro w121 s122 H123
        have E124 := below_st E116 N9 s122
        have h125 := (h117.st s122 H120 (by decide))
        refine ⟨.inr h125.wd, ?_⟩
        refine aw_last 14 (.bool true) rfl (by kernel_rfl) .none (fun _ => dv_assign C) ?_
        refine aw_done (by kernel_rfl) ?_
        refine rk_ret Try.func96 (v := .tuple #[.agg #[.int .u64 (L.getD 3 0), .int .u64 (L.getD 2 0), .int .u64 (L.getD 1 0), .int .u64 (L.getD 0 0)], .bool true]) (res2 Try.results96 (rv_cells (l := [.int .u64 (L.getD 3 0), .int .u64 (L.getD 2 0), .int .u64 (L.getD 1 0), .int .u64 (L.getD 0 0)]) agt25 sz25 rfl f93 H123 rfl) (rv_tmp rfl rfl)) ⟨_, rfl, ?_⟩
        have hd := dig64 (okW.append ho67 (okW.replicate (by decide) 4))
        rw [valB_pad] at hd
        have hws := wide_neg (x := x) (q := valB (2 ^ 64) xs63) (by have := ha.neg_iff; simp_all) hv69 (by omega)
        have hc := comp_end (by omega) hpt
        exact ⟨tu2 (ag4 (vi (by rw [hc 3 (by omega), hd.2.2.2]; exact hws.2.1.symm)) (vi (by rw [hc 2 (by omega), hd.2.2.1]; exact hws.2.2.1.symm)) (vi (by rw [hc 1 (by omega), hd.2.1]; exact hws.2.2.2.1.symm)) (vi (by rw [hc 0 (by omega), hd.1]; exact hws.2.2.2.2.symm))) (vt hws.1), E124⟩
  · -- F
    refine rk_cf (T rfl (congrArg Value.bool hb22)) ?_
    refine rk_skip ?_
    refine rk_seq ?_
    refine rk_seq ?_
    refine rk_reg ?_
    refine lw_v (.agg #[.bool na, .slice Aa la ca]) (dv_loads (l := [.bool na, .slice Aa la ca]) agt69 sz69 (T rfl rfl) H19 rfl) ?_
    have h126 := ha.ext E20
    refine lw_e (oe_callf (vs := [.agg #[.bool na, .slice Aa la ca]]) co74 (ar1 (T rfl rfl)) (nsize_num h126 (by first | omega | (simp; done) | (simp; omega))) ?_)
    rintro _ w127 ⟨rfl, e128⟩
    have E129 := below_ext E20 E20.size e128
    refine lw_v (.bool (decide (255 < ((nbits (x).natAbs : Int))))) (dv_gtr (a := (nbits (x).natAbs : Int)) (b := 255) (T rfl rfl) C) ?_
    refine lw_nil ?_
    by_cases hb130 : 255 < ((nbits (x).natAbs : Int))
    · -- FT
      refine rk_ct (T rfl (congrArg Value.bool (decide_eq_true hb130))) ?_
      refine rk_seq ?_
      refine rk_reg ?_
      refine lw_v (.agg #[.int .u64 0, .int .u64 0, .int .u64 0, .int .u64 0]) (dv_build (pv := []) (l := [.int .u64 0, .int .u64 0, .int .u64 0, .int .u64 0]) zc25 pl25 trivial rfl) ?_
      have H131 := (e128.blk (s18.blk (n14.ext.blk n8.blk) (by omega)))
      refine lw_e (oe_store (v := .agg #[.int .u64 0, .int .u64 0, .int .u64 0, .int .u64 0]) (vs := [.int .u64 0, .int .u64 0, .int .u64 0, .int .u64 0]) (l := [.int .u64 0, .int .u64 0, .int .u64 0, .int .u64 0]) (T rfl rfl) (T rfl rfl) sz25 rfl rfl rfl H131 rfl ?_)
      intro w132 s133 H134
      have E135 := below_st E129 N9 s133
      refine lw_v (.bool false) (dv_assign C) ?_
      refine lw_nil ?_
      refine rk_ret Try.func96 (v := .tuple #[.agg #[.int .u64 0, .int .u64 0, .int .u64 0, .int .u64 0], .bool false]) (res2 Try.results96 (rv_cells (l := [.int .u64 0, .int .u64 0, .int .u64 0, .int .u64 0]) agt25 sz25 rfl rfl H134 rfl) (rv_tmp rfl rfl)) ⟨_, rfl, ?_⟩
      have hno := wide_no (x := x) (by have := ha.neg_iff; first | (left; refine ⟨by simp_all, ?_⟩; omega) | (right; refine ⟨by by_cases hz : x < 0 <;> simp_all <;> omega, ?_⟩; omega))
      exact ⟨tu2 (ag4 (vi hno.2.1.symm) (vi hno.2.2.1.symm) (vi hno.2.2.2.1.symm) (vi hno.2.2.2.2.symm)) (vf hno.1), E135⟩
    · -- FF
      refine rk_cf (T rfl (congrArg Value.bool (decide_eq_false hb130))) ?_
      refine rk_skip ?_
      refine rk_seq ?_
      refine rk_reg ?_
      refine lw_v (.pointer (some ⟨b12, 1, none⟩)) (dv_fieldAddr (a := ⟨b12, 0, none⟩) (a' := ⟨b12, 1, none⟩) fo69_1 (T rfl rfl) rfl) ?_
      have H136 := (e128.blk H19)
      refine lw_v (.slice Aa la ca) (dv_load1 (b := b12) (o := 1) agt67 (T rfl rfl) H136 rfl) ?_
      have h137 := (h126.ext e128)
      obtain ⟨xs138, hl139, hc140, hw141, ho142, hk143, hv144⟩ := h137.wc
      have H145 := (e128.blk H21)
      have : b1 < w127.heap.size := lt_of_blk H145
      have H146 := (e128.blk (s18.blk (n14.ext.blk n8.blk) (by omega)))
      have : b6 < w127.heap.size := lt_of_blk H146
      have : b12 < w127.heap.size := lt_of_blk H136
      have N147 : w.heap.size ≤ w127.heap.size := E129.size
      refine lw_e (oe_callf (vs := [.slice Aa la ca]) co110 (ar1 (T rfl rfl)) (clone_ok hw141 hl139 (by first | omega | (simp; done) | (simp; omega))) ?_)
      rintro _ w151 ⟨Ad148, c149, rfl, e152, hO150⟩
      have E153 := below_ext E129 E129.size e152
      refine lw_e (oe_append0 (base := w127.heap.size) (L := xs138) (m := 4) (j := 4) us67 ui3 in22 (T rfl rfl) C rfl (by decide) (by decide) hO150 (by first | omega | (simp; done) | (simp; omega)) ?_)
      intro Ad154 c155 w156 hO157 x158
      have E159 := below_bl E153 N147 x158
      refine lw_v (.slice Ad154 ((xs138 ++ List.replicate 4 (0 : Int)).length) c155) (dv_assign (T rfl rfl)) ?_
      refine lw_nil ?_
      refine rk_seq ?_
      refine rk_seq ?_
      refine rk_reg ?_
      refine lw_v (.pointer (some ⟨b1, 0, none⟩)) (dv_fieldAddr (a := ⟨b1, 0, none⟩) (a' := ⟨b1, 0, none⟩) fo69_0 (T rfl rfl) rfl) ?_
      have H160 := (bl_blk x158 (e152.blk H145) (by omega))
      refine lw_v (.bool na) (dv_load1 (b := b1) (o := 0) agt4 (T rfl rfl) H160 rfl) ?_
      refine lw_nil ?_
      refine rk_cf (T rfl (congrArg Value.bool hb22)) ?_
      refine rk_skip ?_
      refine rk_seq ?_
      refine rk_any (fun w => Wd w 22 .u64 Ad154 ((xs138 ++ List.replicate 4 (0 : Int)))) [14] mo ?_
      intro w161 d162
      have E163 := below_ext E159 E159.size d162.ext
      have h164 := (hO157.ext d162.ext)
      refine aw_pure 0 (.slice Ad154 ((xs138 ++ List.replicate 4 (0 : Int)).length) c155) rfl (by kernel_rfl) .none h164.wd (fun _ => dv_move (T rfl rfl)) ?_
      obtain ⟨g165, o166, rfl⟩ := Wd.at h164.wd (by first | omega | (simp; done) | (simp; omega))
      refine aw_pure 1 (.pointer (some ⟨g165, o166 + 3, none⟩)) rfl (by kernel_rfl) .none h164.wd (fun _ => dv_indexW (g := g165) (o := o166) (l := (xs138 ++ List.replicate 4 (0 : Int)).length) (c := c155) (i := 3) (j := 3) us67 sz22 (T rfl rfl) C (by omega) (by first | omega | (simp; done) | (simp; omega))) ?_
      refine aw_load 2 (.int .u64 (((xs138 ++ List.replicate 4 (0 : Int))).getD 3 0)) rfl (by kernel_rfl) .none h164.wd (fun _ s => dv_load agt22 (T rfl rfl) (Wd.cell s (by first | omega | (simp; done) | (simp; omega)))) ?_
      refine aw_pure 3 (.slice (some ⟨g165, o166, none⟩) ((xs138 ++ List.replicate 4 (0 : Int)).length) c155) rfl (by kernel_rfl) .none h164.wd (fun _ => dv_move (T rfl rfl)) ?_
      refine aw_pure 4 (.pointer (some ⟨g165, o166 + 2, none⟩)) rfl (by kernel_rfl) .none h164.wd (fun _ => dv_indexW (g := g165) (o := o166) (l := (xs138 ++ List.replicate 4 (0 : Int)).length) (c := c155) (i := 2) (j := 2) us67 sz22 (T rfl rfl) C (by omega) (by first | omega | (simp; done) | (simp; omega))) ?_
      refine aw_load 5 (.int .u64 (((xs138 ++ List.replicate 4 (0 : Int))).getD 2 0)) rfl (by kernel_rfl) .none h164.wd (fun _ s => dv_load agt22 (T rfl rfl) (Wd.cell s (by first | omega | (simp; done) | (simp; omega)))) ?_
      refine aw_pure 6 (.slice (some ⟨g165, o166, none⟩) ((xs138 ++ List.replicate 4 (0 : Int)).length) c155) rfl (by kernel_rfl) .none h164.wd (fun _ => dv_move (T rfl rfl)) ?_
      refine aw_pure 7 (.pointer (some ⟨g165, o166 + 1, none⟩)) rfl (by kernel_rfl) .none h164.wd (fun _ => dv_indexW (g := g165) (o := o166) (l := (xs138 ++ List.replicate 4 (0 : Int)).length) (c := c155) (i := 1) (j := 1) us67 sz22 (T rfl rfl) C (by omega) (by first | omega | (simp; done) | (simp; omega))) ?_
      refine aw_load 8 (.int .u64 (((xs138 ++ List.replicate 4 (0 : Int))).getD 1 0)) rfl (by kernel_rfl) .none h164.wd (fun _ s => dv_load agt22 (T rfl rfl) (Wd.cell s (by first | omega | (simp; done) | (simp; omega)))) ?_
      refine aw_pure 9 (.slice (some ⟨g165, o166, none⟩) ((xs138 ++ List.replicate 4 (0 : Int)).length) c155) rfl (by kernel_rfl) .none h164.wd (fun _ => dv_move (T rfl rfl)) ?_
      refine aw_pure 10 (.pointer (some ⟨g165, o166 + 0, none⟩)) rfl (by kernel_rfl) .none h164.wd (fun _ => dv_indexW (g := g165) (o := o166) (l := (xs138 ++ List.replicate 4 (0 : Int)).length) (c := c155) (i := 0) (j := 0) us67 sz22 (T rfl rfl) C (by omega) (by first | omega | (simp; done) | (simp; omega))) ?_
      refine aw_load 11 (.int .u64 (((xs138 ++ List.replicate 4 (0 : Int))).getD 0 0)) rfl (by kernel_rfl) .none h164.wd (fun _ s => dv_load agt22 (T rfl rfl) (Wd.cell s (by first | omega | (simp; done) | (simp; omega)))) ?_
      refine aw_pure 12 (.agg #[.int .u64 (((xs138 ++ List.replicate 4 (0 : Int))).getD 3 0), .int .u64 (((xs138 ++ List.replicate 4 (0 : Int))).getD 2 0), .int .u64 (((xs138 ++ List.replicate 4 (0 : Int))).getD 1 0), .int .u64 (((xs138 ++ List.replicate 4 (0 : Int))).getD 0 0)]) rfl (by kernel_rfl) .none h164.wd (fun _ => dv_build (pv := [(0, .int .u64 (((xs138 ++ List.replicate 4 (0 : Int))).getD 3 0)), (1, .int .u64 (((xs138 ++ List.replicate 4 (0 : Int))).getD 2 0)), (2, .int .u64 (((xs138 ++ List.replicate 4 (0 : Int))).getD 1 0)), (3, .int .u64 (((xs138 ++ List.replicate 4 (0 : Int))).getD 0 0))]) (l := [.int .u64 (((xs138 ++ List.replicate 4 (0 : Int))).getD 3 0), .int .u64 (((xs138 ++ List.replicate 4 (0 : Int))).getD 2 0), .int .u64 (((xs138 ++ List.replicate 4 (0 : Int))).getD 1 0), .int .u64 (((xs138 ++ List.replicate 4 (0 : Int))).getD 0 0)]) zc25 pl25 ⟨rfl, (T rfl rfl), ⟨rfl, (T rfl rfl), ⟨rfl, (T rfl rfl), ⟨rfl, (T rfl rfl), trivial⟩⟩⟩⟩ rfl) ?_
      have H167 := (d162.ext.blk (bl_blk x158 (e152.blk H146) (by omega)))
      refine aw_one 13 rfl (by kernel_rfl) .none (oe_store (v := .agg #[.int .u64 (((xs138 ++ List.replicate 4 (0 : Int))).getD 3 0), .int .u64 (((xs138 ++ List.replicate 4 (0 : Int))).getD 2 0), .int .u64 (((xs138 ++ List.replicate 4 (0 : Int))).getD 1 0), .int .u64 (((xs138 ++ List.replicate 4 (0 : Int))).getD 0 0)]) (vs := [.int .u64 (((xs138 ++ List.replicate 4 (0 : Int))).getD 3 0), .int .u64 (((xs138 ++ List.replicate 4 (0 : Int))).getD 2 0), .int .u64 (((xs138 ++ List.replicate 4 (0 : Int))).getD 1 0), .int .u64 (((xs138 ++ List.replicate 4 (0 : Int))).getD 0 0)]) (l := [.int .u64 (((xs138 ++ List.replicate 4 (0 : Int))).getD 3 0), .int .u64 (((xs138 ++ List.replicate 4 (0 : Int))).getD 2 0), .int .u64 (((xs138 ++ List.replicate 4 (0 : Int))).getD 1 0), .int .u64 (((xs138 ++ List.replicate 4 (0 : Int))).getD 0 0)]) (T rfl rfl) (T rfl rfl) sz25 rfl rfl rfl H167 rfl ?_)
      intro w168 s169 H170
      have E171 := below_st E163 N9 s169
      have h172 := (h164.st s169 H167 (by decide))
      refine ⟨.inr h172.wd, ?_⟩
      refine aw_last 14 (.bool true) rfl (by kernel_rfl) .none (fun _ => dv_assign C) ?_
      refine aw_done (by kernel_rfl) ?_
      refine rk_ret Try.func96 (v := .tuple #[.agg #[.int .u64 (((xs138 ++ List.replicate 4 (0 : Int))).getD 3 0), .int .u64 (((xs138 ++ List.replicate 4 (0 : Int))).getD 2 0), .int .u64 (((xs138 ++ List.replicate 4 (0 : Int))).getD 1 0), .int .u64 (((xs138 ++ List.replicate 4 (0 : Int))).getD 0 0)], .bool true]) (res2 Try.results96 (rv_cells (l := [.int .u64 (((xs138 ++ List.replicate 4 (0 : Int))).getD 3 0), .int .u64 (((xs138 ++ List.replicate 4 (0 : Int))).getD 2 0), .int .u64 (((xs138 ++ List.replicate 4 (0 : Int))).getD 1 0), .int .u64 (((xs138 ++ List.replicate 4 (0 : Int))).getD 0 0)]) agt25 sz25 rfl rfl H170 rfl) (rv_tmp rfl rfl)) ⟨_, rfl, ?_⟩
      have hd := dig64 (okW.append ho142 (okW.replicate (by decide) 4))
      rw [valB_pad] at hd
      have hws := wide_pos (x := x) (q := valB (2 ^ 64) xs138) (by have := ha.neg_iff; by_cases hz : x < 0 <;> simp_all <;> omega) hv144 (by omega)
      exact ⟨tu2 (ag4 (vi (by rw [hd.2.2.2]; exact hws.2.1.symm)) (vi (by rw [hd.2.2.1]; exact hws.2.2.1.symm)) (vi (by rw [hd.2.1]; exact hws.2.2.2.1.symm)) (vi (by rw [hd.1]; exact hws.2.2.2.2.symm))) (vt hws.1), E171⟩

end Go.Proofs.Ytpnjkjahfklfnaa.W
